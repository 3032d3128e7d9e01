/- Part. -/
import Derived.Test.YtmbgnaoilncbnaaGreatDoorX04
set_option linter.all false
namespace Go.AM
section
variable {P:Program} {g:aO} {w:World} {σ : aj} {K:AV->aj->Prop}
def SW {op : BinOp} {t : TypeId} {ks : List Kd} {ag : Bool} {i : TypeInfo} {x y : AV} {a b : Value} {ox oy : Operand} (hop : op = .eql \/ op = .neq) (hR : Rel g w σ) (hf : sJ P 12 t = some ks) (hA : nT P t = some ag) (hi : P.info? t = some i)
    (hs:i.size=ks.length) (hg:ag=true->P.eqGuardType P.depth t=false) (hx:VR g w x a) (hy:VR g w y b)
    (hK : match (generalizing := false) (if ag then (match (generalizing := false) x, y with | .agg az, .agg bs => iz ks az bs | _, _ => none) else iz ks [x] [y]) with
      | some r=>K (.bool (if op = .neq then !r else r)) σ
      | none=>False):bQ P (do eqGuard op t ox oy a b;binOp op t a b) g w σ K:=by
 have afd:∀ (ks:List Kd) (az bs:List AV) (r:Bool),iz ks az bs=some r->az.length=ks.length/\bs.length=ks.length:=by
  intro ks
  induction ks with
  | nil=>intro az bs r h;cases az<;>cases bs<;>simp[iz]at h ⊢
  | cons k ks ih =>
    intro az bs r h;cases az<;>cases bs<;>simp only[iz]at h<;>(try cases h);split at h
    ·rename_i h1 h2;have:=ih _ _ _ h2;simp[this.1,this.2]
    ·cases h
 cases ag with
 | true =>
   simp only[if_true]at hK;cases hx<;>(try exact False.elim hK);cases hy<;>(try exact False.elim hK)
   case agg.agg az vs hl hsc h bs us hl' acF h' =>
    simp only at hK;split at hK
    ·rename_i r hr;obtain⟨l1,l2⟩:=afd _ _ _ _ hr
     obtain⟨v,u,p1,p2,p3⟩:=acD (P:=P) (g:=g) (w:=w) 12 t ks 10000 vs us 0 az bs r hf (by omega) ⟨i,hi,hs⟩ l1 l2 (by omega) (by omega)
      (fun j hj=>by simpa using h j (by omega)) (fun j hj=>by simpa using h' j (by omega)) hr
     have e1:v = .agg vs:=by
      have:(part t vs 0).run P w = .ok (.agg (vs.extract 0 (0+i.size))) w:=by simp[part,lF hA,dN hi]
      rw[this]at p1;cases p1;rw[dX,show i.size=vs.size by omega];simp
     have e2:u = .agg us:=by
      have:(part t us 0).run P w = .ok (.agg (us.extract 0 (0+i.size))) w:=by simp[part,lF hA,dN hi]
      rw[this]at p2;cases p2;rw[dX,show i.size=us.size by omega];simp
     subst e1;subst e2;refine bQ.pure hR (v:= .bool (if op = .neq then !r else r)) ?_ (.bool _) hK;simp only[Sem.run_bind,run_eqGuard_agg w op t ox oy vs us (hg rfl),Result.andThen_ok];rcases hop with rfl|rfl
     ·rw[run_eql_struct,p3];rfl
     ·rw[run_neq_struct,p3];rfl
    ·exact hK.elim
 | false =>
   simp only[Bool.false_eq_true,if_false]at hK;split at hK
   ·rename_i r hr;obtain⟨l1,l2⟩:=afd _ _ _ _ hr;simp only[List.length_singleton]at l1
    match ks,l1 with
    | [k], _ =>
      have hd:∃ d,P.underlying t=some d/\((d = .bool/\k = .b)\/((∃ q,d = .int q)/\k = .i)\/(d = .string/\k = .s)):=by
       unfold sJ at hf;split at hf
       ·rename_i hu;cases hf;exact⟨_,hu,.inl ⟨rfl,rfl⟩⟩
       ·rename_i q hu;cases hf;exact⟨_,hu,.inr (.inl ⟨⟨q,rfl⟩,rfl⟩)⟩
       ·rename_i hu;cases hf;exact⟨_,hu,.inr (.inr ⟨rfl,rfl⟩)⟩
       ·rename_i fs hu;simp[nT,hu]at hA
       ·cases hf
      obtain⟨d,hu,hd⟩:=hd;simp only[iz]at hr;split at hr
      ·rename_i r1 r2 h1 h2;cases h2;cases hr;simp only[Bool.and_true]at *;rcases SV h1 hx hy with⟨rfl,x',y',rfl,rfl,rfl⟩|⟨rfl,q,x',y',rfl,rfl,rfl⟩|⟨rfl,x',y',rfl,rfl,rfl⟩
       ·rcases hd with⟨rfl,_⟩|⟨_,e⟩|⟨_,e⟩
        ·refine bQ.pure hR (v:= .bool (if op = .neq then !(x'==y')else (x'==y'))) ?_ (.bool _) hK;rcases hop with rfl|rfl<;>simp[eqGuard,binOp,Op.equal,Op.maxDepth,run_equalIn_bool' w 9999 t x' y' hu]
        ·cases e
        ·cases e
       ·refine bQ.pure hR (v:= .bool (if op = .neq then !(x'==y')else (x'==y'))) ?_ (.bool _) hK;rcases hop with rfl|rfl<;>simp[eqGuard,binOp,Op.intCmp,bne]
       ·refine bQ.pure hR (v:= .bool (if op = .neq then !(x'==y')else (x'==y'))) ?_ (.bool _) hK;rcases hop with rfl|rfl<;>simp[eqGuard,binOp,Op.stringOp,U7]
      ·cases hr
   ·exact hK.elim
def Px {op : BinOp} {t : TypeId} {x y : AV} {a b : Value} {ox oy : Operand} (hR : Rel g w σ) (hx : VR g w x a) (hy : VR g w y b)
    (hK:iV op x y fun v=>K v σ):bQ P (do eqGuard op t ox oy a b;binOp op t a b) g w σ K:=by
 have hg:(eqGuard op t ox oy a b).run P w = .ok () w:=by
  cases hx<;>cases hy<;>(try (cases op<;>exact hK.elim))<;>cases op<;>rfl
 obtain⟨v,w',g',av,σ',h1,h2⟩:=aa7 (P:=P) (t:=t) hR hx hy hK;exact⟨v,w',g',av,σ',by simp only[Sem.run_bind,hg,Result.andThen_ok,h1],h2⟩
def SX {elem : TypeId} {t : TypeId} (hu : P.underlying t = some (.pointer elem)) (p : Option Addr) (D : Nat) :
    (Op.equalIn (D+1) t (.pointer none) (.pointer p)).run P w = .ok p.isNone w/\(Op.equalIn (D+1) t (.pointer p) (.pointer none)).run P w = .ok p.isNone w:=by
 constructor
 ·simp[Op.equalIn,bl hu]
 ·cases p<;>simp[Op.equalIn,bl hu]
def Py (place : Nat -> Option (Nat × Nat)) {e : Env} {a : Act} {nt : Nat} (hE : gj nt g w e a.tmps) : ∀ (parts : List (Nat × Operand)) (ps : List ((Nat × Nat) × AX)) (cs : List AV) (vs : Array Value) (K : List AV -> Prop),
    sI nt place parts=some ps->cs.length=vs.size->(∀ i,i<cs.length->VR g w (cs.getD i .undef) (vs.getD i Go.undef))->cs.all AV.scalar=true ->
    nu cs e (ps.map fun p=>(p.1.1,p.1.2,p.2)) K ->
    ∃ cs' us,Instr.fill place vs (parts.map fun p=>(p.1,a.eval p.2))=some us/\cs'.length=us.size/\(∀ i,i<cs'.length->VR g w (cs'.getD i .undef) (us.getD i Go.undef))/\cs'.all AV.scalar=true/\us.size=vs.size/\K cs':=by
 intro parts
 induction parts with
 | nil =>
   intro ps cs vs K h hl hr hs hK;cases h;exact⟨cs,vs,rfl,hl,hr,hs,rfl,hK⟩
 | cons p parts ih =>
   intro ps cs vs K h hl hr hs hK;obtain⟨i,x⟩:=p;simp only[sI]at h;split at h
   ·rename_i q ax ps' h1 h2 h3;cases h;obtain⟨off,n⟩:=q;simp only[bu,nu]at hK;obtain⟨k1,k2,k3,k4⟩:=hK;have hv:=cL h2 hE;obtain⟨c1,c2⟩:=lN hv k2
    have hput:∀ (us:List Value) (vs:Array Value) (j:Nat),off+j+us.length<=vs.size->(us.zipIdx j).foldl (fun cs (p:Value × Nat)=>cs.setIfInBounds (off+p.2) p.1) vs=putRow vs (off+j) us:=by
     intro us
     induction us with
     | nil=>intros;rfl
     | cons u us ih =>
       intro vs j hh;simp only[List.length_cons]at hh;simp only[List.zipIdx_cons,List.foldl_cons,putRow];exact ih _ (j+1) (by simp;omega)
    have ZI:(a.eval x).cells.zipIdx.foldl (fun cs (p:Value × Nat)=>cs.setIfInBounds (off+p.2) p.1) vs=putRow vs off (a.eval x).cells.toList:=by
     have:=hput (a.eval x).cells.toList vs 0 (by simp;omega);rw[<-Array.foldl_toList,Array.toList_zipIdx];simpa using this
    obtain⟨cs',us,r1,r2,r3,r4,r5,r6⟩:=ih ps' (fE cs off (ax.ev e).cells) (putRow vs off (a.eval x).cells.toList) K h3 (by rw[nf,size_putRow];exact hl)
     (fun j hj => by
       rw[nf]at hj;rw[CA _ _ _ (by omega),uR _ _ _ (by simp;omega)];simp only[fI,<-c1];split
       ·rename_i hh;simpa using c2 (j-off) (by omega)
       ·exact hr j hj) (Fj hs off k2) k4
    refine⟨cs',us,?_,r2,r3,r4,by rw[r5,size_putRow],r6⟩;simp only[bu,Instr.fill,h1];have e1:¬ ((a.eval x).cells.size≠n\/vs.size<off+(a.eval x).cells.size):=by omega
    rw[if_neg (by simpa using e1),ZI];exact r1
   ·cases h
def J4 {t : TypeId} {fs : Array Field} {z : AV} {e : Env} {a : Act} {nt : Nat} {parts : Array (Nat × Operand)} {ps : List ((Nat × Nat) × AX)} (hR : Rel g w σ) (hE : gj nt g w e a.tmps)
    (hz:oD P t=some z) (hzs:z.cells.all AV.scalar=true) (hu:P.underlying t=some (.struct fs)) (hfs:fs.toList.all (fun f=>(P.info? f.type).isSome)=true)
    (hp:sI nt (fun i=>(fs[i]?).map fun f=>(f.offset,P.cellsOf f.type)) parts.toList=some ps)
    (hK:nu z.cells e (ps.map fun p=>(p.1.1,p.1.2,p.2)) fun cs=>K (.agg cs) σ):bQ P (Instr.build t (parts.map fun(i,x)=>(i,a.eval x))) g w σ K:=by
 obtain⟨v,h1,h2⟩:=Hf hz w;obtain⟨h3,h4⟩:=h2 g w;obtain⟨h5,h6⟩:=lN h3 h4
 have aeh:∀ (l:List Field),l.all (fun f=>(P.info? f.type).isSome)=true->(l.mapM fun f=>(do pure (f.offset,← sizeOf f.type):Sem (Nat × Nat))).run P w = .ok (l.map fun f=>(f.offset,P.cellsOf f.type)) w:=by
  intro l
  induction l with
  | nil=>intro _;rfl
  | cons f l ih =>
    intro h;simp only[List.all_cons,aF,eZ]at h;obtain⟨⟨i,hi⟩,h'⟩:=h;simp only[List.mapM_cons,Sem.run_bind,dN hi,Result.andThen_ok,Sem.run_pure,ih h',bu,Program.cellsOf,hi,gC,bT]
 obtain⟨cs',us,r1,r2,r3,r4,r5,r6⟩:=Py (fun i=>(fs[i]?).map fun f=>(f.offset,P.cellsOf f.type)) hE parts.toList ps z.cells v.cells _ hp h5 h6 h4 hK;refine bQ.pure hR (v:= .agg us) ?_ (.agg cs' us r2 r4 r3) r6
 have hm:(fs.mapM fun f=>(do pure (f.offset,← sizeOf f.type):Sem (Nat × Nat))).run P w = .ok (fs.map fun f=>(f.offset,P.cellsOf f.type)) w:=by
  have:=aeh fs.toList hfs;rw[Array.mapM_eq_mapM_toList];simp only[Sem.run_map,this,Result.andThen_ok]
  congr 1
  apply Array.ext';simp
 simp only[Instr.build,Sem.run_bind,h1,Result.andThen_ok,bl hu,hm]
 have Mj:Instr.fill (fun i=>(fs.map fun f=>(f.offset,P.cellsOf f.type))[i]?) v.cells (parts.map fun(i,x)=>(i,a.eval x)).toList=some us:=by
  rw[<-r1]
  congr 1
  ·funext i;simp
  ·simp
 rw[Mj];rfl
end
end Go.AM
namespace Go.AM
section
variable {P:Program} {g:aO} {w:World} {σ : aj} {K:AV->aj->Prop}
def jV(g:aO)(w:World)(el:El)(xs:List AV)(vs:Array Value): Prop :=
 ∀ i c,i<xs.length->c<el.sz->VR g w ((xs.getD i .undef).cell c) (vs.getD (i*el.sz+c) Go.undef)
def jV.mono{g g':aO}{w w':World}{el:El}{xs:List AV}{vs:Array Value}(h:jV g w el xs vs)(hm:lK g w g' w'): jV g' w' el xs vs :=
 fun i c hi hc=>(h i c hi hc).mono hm
def zN{i c n s:Nat}(hi:i<n)(hc:c<s): i*s+c<n*s:=by
 calc i*s+c<i*s+s:=by omega
  _=(i+1)*s:=by rw[Nat.succ_mul]
  _<=n*s:=bG _ hi
def jV.append {el : El} {xs ys : List AV} {vs us rest : Array Value} (h : jV g w el xs vs) (h' : jV g w el ys us) (hv : vs.size = xs.length * el.sz) (hu : us.size = ys.length * el.sz) :
    jV g w el (xs++ys) (vs++us++rest):=by
 intro i c hi hc;simp only[List.length_append]at hi;by_cases h1:i<xs.length
 ·have h2:=zN h1 hc;have e1:(xs++ys).getD i .undef=xs.getD i .undef:=by simp[List.getElem?_append_left h1]
  have e2:(vs++us++rest).getD (i*el.sz+c) Go.undef=vs.getD (i*el.sz+c) Go.undef:=by
   have h3:i*el.sz+c<vs.size:=by omega
   have h4:i*el.sz+c<(vs++us).size:=by simp;omega
   simp[eJ h3,eJ h4]
  rw[e1,e2];exact h i c h1 hc
 ·obtain⟨j,rfl⟩:∃ j,i=xs.length+j:=⟨i-xs.length,by omega⟩;have hj:j<ys.length:=by omega
  have h2:=zN hj hc;have e1:(xs++ys).getD (xs.length+j) .undef=ys.getD j .undef:=by simp[bU]
  have e3:(xs.length+j)*el.sz+c=vs.size+(j*el.sz+c):=by rw[dK,hv];omega
  have e2:(vs++us++rest).getD ((xs.length+j)*el.sz+c) Go.undef=us.getD (j*el.sz+c) Go.undef:=by
   rw[e3];have h4:vs.size+(j*el.sz+c)<(vs++us).size:=by simp;omega
   rw[fh,eJ h4,Array.getElem?_append_right (by omega)];simp
  rw[e1,e2];exact h' j c hj hc
def SY {b o n : Nat} (hc : ∀ c, c < n -> (w.cell? ⟨b, o + c, none⟩).isSome = true) (w2 : World) (hw : w2.heap = w.heap) :
    (loadCells ⟨b,o,none⟩ n).run P w2 = .ok (((List.range n).map fun c=>gR w ⟨b,o+c,none⟩).toArray) w2:=by
 have e:∀ a,w2.cell? a=w.cell? a:=fun a=>by simp only[World.cell?,hw]
 have:=run_loadCells (P:=P) (w:=w2) (b:=b) (o:=o) (fun c h=>by rw[e];exact hc c h) 0 #[] n (by omega);simpa[loadCells,List.range_eq_range',gR,e]using this
def BN {el : El} {x : AV} {v : Value} {K : List AV -> Prop} (hR : Rel g w σ) (hv : VR g w x v) (hK : iA σ el x K) :
    ∃ xs:List AV,∃ us:Array Value,K xs/\(Builtin.lenOf v).run P w = .ok xs.length w/\(∀ w2:World,w2.heap=w.heap->(Builtin.firstCells el.sz xs.length v).run P w2 = .ok us w2)/\us.size=xs.length*el.sz/\jV g w el xs us:=by
 cases hv<;>simp only[iA]at hK
 case str s =>
  obtain⟨rfl,hK⟩:=hK;have hs:(⟨s.toArray⟩:ByteArray).size=s.length:=List.size_toArray;refine⟨_,(s.map fun b=>Value.int .u8 b.toNat).toArray,hK,by simp[Builtin.lenOf,hs],fun w2 _=>?_,by simp,fun i c hi hc=>?_⟩
  ·have : (⟨s.toArray⟩ : ByteArray).extract 0 s.length = ⟨s.toArray⟩ := by
    apply ByteArray.ext;simp[ByteArray.data_extract]
   simp[Builtin.firstCells,this]
  ·have hc0:c=0:=by simp at hc;omega
   subst hc0;simp only[cE]at hi;simp[hi,AV.cell];exact .int _ _
 case ae=>exact⟨[],#[],hK,rfl,fun _ _=>rfl,by simp,fun i c hi=>absurd hi (eF _)⟩
 case mq f bN b cap hf =>
  obtain⟨rfl,hK⟩:=hK;refine⟨[],#[],hK,rfl,fun w2 _=>?_,by simp,fun i c hi=>absurd hi (eF _)⟩;cases b with
  | none=>rfl
  | some b=>simp[Builtin.firstCells,loadCells,loadCellsFrom]
 case aK f bN xs b off cap hi hf hx ft hc h =>
  obtain⟨rfl,hK⟩:=hK
  have hcells:∀ c,c<xs.length*bN.sz->(w.cell? ⟨b,off+c,none⟩).isSome=true:=fun c gK=>by
   have hz:0<bN.sz:=by
    rcases Nat.eq_zero_or_pos bN.sz with e|e
    ·rw[e]at gK;simp at gK
    ·exact e
   have:=hc (c / bN.sz) (c % bN.sz) ((Nat.div_lt_iff_lt_mul hz).2 gK) (Nat.mod_lt _ hz);rwa[Nat.div_add_mod' c bN.sz]at this
  refine⟨xs,_,hK,rfl,SY hcells,by simp,fun i c hi' gK=>?_⟩;have h2:=zN hi' gK;simpa[h2]using h i c hi' gK
 case own bN l m lo n h =>
  obtain⟨rfl,hK⟩:=hK;obtain⟨q1,q2,A,cap,rfl,q3⟩:=h;split at hK
  ·rename_i dM xs hxs;obtain⟨rfl,rfl,hK⟩:=hK;obtain⟨o1,o2,o3⟩:=hR.ok l _ hxs;obtain⟨q4,q5,q6⟩:=q3 o1.symm;have hlen:((xs.drop lo).take n).length=n:=by simp;omega
   refine⟨(xs.drop lo).take n,?_⟩;rw[hlen];rcases Nat.eq_zero_or_pos n with rfl|hn
   ·refine⟨#[],hK,rfl,fun w2 _=>?_,by simp,fun i c hi=>by simp at hi⟩;cases A with
    | none=>rfl
    | some b=>simp[Builtin.firstCells,loadCells,loadCellsFrom]
   ·rcases o3 with⟨rfl,_,_⟩|⟨b,vs,b1,b2,b3,b4,b5,_⟩
    ·simp at q4;omega
    ·have q7:=q6 (by omega);rw[b1]at q7;simp only[gC]at q7;subst q7
     have hrow:lo*dM.sz+n*dM.sz<=vs.size:=by
      rw[b3,<-dK];exact bG _ (by omega)
     have hcells:∀ c,c<n*dM.sz->w.cell? ⟨b,lo*dM.sz+c,none⟩=some (vs.getD (lo*dM.sz+c) Go.undef):=fun c gK=>b2.cell (by omega);refine⟨_,hK,rfl,SY (fun c gK=>by rw[hcells c gK];rfl),by simp,fun i c hi' gK=>?_⟩;rw[hlen]at hi';have h2:=zN hi' gK;rw[kZ hi']
     have e:(((List.range (n*dM.sz)).map fun c=>gR w ⟨b,lo*dM.sz+c,none⟩).toArray).getD (i*dM.sz+c) Go.undef=vs.getD ((lo+i)*dM.sz+c) Go.undef:=by
      simp[h2,gR,hcells _ h2,dK,ep]
     rw[e];exact b5 (lo+i) c (by omega) gK
  ·exact hK.elim
def SZ(need:Nat): ∀(r c:Nat),c<=2*need+512->Builtin.growBy need r c<=2*need+512
 | 0,c,h=>h
 | r + 1, c, h => by
   simp only[Builtin.growBy];split
   ·exact h
   ·exact SZ need r _ (by omega)
def ZJ{need old:Nat}(h:old<need): Builtin.nextslicecap need old<=2*need+512:=by
 unfold Builtin.nextslicecap;split
 ·omega
 ·split
  ·omega
  ·exact SZ need 4 old (by omega)
def aei{need old bytes sz:Nat}(h:old<need)(hb:bytes<=24*(sz+1))(hs:sz<=1000)(hr:need*(sz+1)<=2 ^ 40): ¬ Builtin.nextslicecap need old*bytes>2 ^ 48:=by
 have h1:=ZJ h;have h2:Builtin.nextslicecap need old*bytes<=(2*need+512)*(24*(sz+1)):=Nat.mul_le_mul h1 hb
 have h3:(2*need+512)*(24*(sz+1))=48*(need*(sz+1))+12288*(sz+1):=by
  rw[dK,show 2*need*(24*(sz+1))=48*(need*(sz+1)) by
   rw[eP 2 need,Nat.mul_assoc,show 2*(24*(sz+1))=48*(sz+1) by omega,Nat.mul_left_comm]]
  omega
 have h4:48*(need*(sz+1))<=48*2 ^ 40:=Nat.mul_le_mul_left _ hr;have h5:(2:Nat) ^ 48=281474976710656:=by decide
 have h6:(2:Nat) ^ 40=1099511627776:=by decide
 omega
def acG {ats : Array TypeId} {r sT xT e : TypeId} {d : TypeDesc} {el : El} {base : Option Addr} {sLen sCap n : Nat} {x : Value} {olds news : Array Value}
    (h0:ats[0]? = some sT) (h1:ats[1]? = some xT) (hu:P.underlying sT=some (.slice e)) (hx:P.underlying xT=some d) (hd:∀ k,d≠ .int k) (he:mw P e=some el)
    (hl:(Builtin.lenOf x).run P w = .ok n w) (hc:sCap<sLen+n) (hr:(sLen+n)*(el.sz+1)<=2 ^ 40)
    (ho:∀ dr,(Builtin.firstCells el.sz sLen (.slice base sLen sCap)).run P { w with drawn:=dr } = .ok olds { w with drawn:=dr })
    (hn:∀ dr,(Builtin.firstCells el.sz n x).run P { w with drawn:=dr } = .ok news { w with drawn:=dr }) :
    ∃ cap rest dr, sLen + n <= cap /\ rest.size = (cap - (sLen + n)) * el.sz /\
      (Builtin.append_ ats r #[.slice base sLen sCap,x]).run P w = .ok (.slice (some ⟨w.heap.size,0,none⟩) (sLen+n) cap) (World.alloc { w with drawn:=dr } (.cells (olds++news++rest) e)):=by
 obtain⟨fi,hi,_,hs,_,hb,hsz,z,hz,hzs⟩:=jU he;have hroom:=aei (bytes:=fi.bytes) (old:=sCap) hc hb hsz hr;have hzv:∀ w,(zeroValue e).run P w = .ok z w:=fun w=>by simp[zeroValue,run_typeInfo hi,hz]
 let q:Question:= .appendCap (sLen+n) sCap e
 let cap:=q.cut (w.tape w.drawn q)
 refine⟨cap,Builtin.zeroCells z.cells (cap-(sLen+n)),w.drawn+1,by simp only[cap,q,Question.cut];omega,by simp[Builtin.zeroCells,hzs],?_⟩;have alm:(match d with | .int _=>true|_=>false)=false:=by cases d<;>first|rfl|exact absurd rfl (hd _)
 have hfalse:((d matches .int _):Bool)=false:=by cases d<;>first|rfl|exact absurd rfl (hd _)
 have ag7:¬ (sLen+n<=sCap):=by omega
 have hbytes:fi.bytes=0->¬ (((sLen+n:Nat):Int)>IntKind.i64.max):=fun _=>by
  have:(sLen+n)*1<=(sLen+n)*(el.sz+1):=Nat.mul_le_mul_left _ (by omega);have h6:(2:Nat) ^ 40=1099511627776:=by decide
  have:IntKind.i64.max=9223372036854775807:=by decide
  omega
 have hb':¬ ((((sLen+n:Nat):Int)>IntKind.i64.max)/\fi.bytes=0):=fun h=>hbytes h.2 h.1;have akb:q.forced=false:=rfl;unfold Builtin.append_;simp only[gY,gy,gA,h0,h1,Sem.run_bind,bl hu,Result.andThen_ok,dN hi,hs,bl hx,Sem.run_pure,hfalse,hl,Bool.false_eq_true,if_false,if_neg ag7,run_typeInfo hi,false_or,gk,if_true];rw[if_neg hb'];simp only[Sem.run_bind,run_typeInfo hi,Result.andThen_ok,if_neg hroom];rw[run_choose];simp only[show (Question.appendCap (sLen+n) sCap e).forced=false from rfl,Bool.false_eq_true,if_false,Result.andThen_ok,run_typeInfo hi,run_askRoom,ho,hn,hzv,newRow,Sem.run_bind,run_newObj,Sem.run_pure];rfl
def Xp {ats : Array TypeId} {r sT xT e : TypeId} {d : TypeDesc} {el : El} {b o : Nat} {sLen sCap n : Nat} {x : Value} {news vs : Array Value}
    (h0:ats[0]? = some sT) (h1:ats[1]? = some xT) (hu:P.underlying sT=some (.slice e)) (hx:P.underlying xT=some d) (hd:∀ k,d≠ .int k) (he:mw P e=some el)
    (hl:(Builtin.lenOf x).run P w = .ok n w) (hc:sLen+n<=sCap)
    (hn:(Builtin.firstCells el.sz n x).run P w = .ok news w) (hr:Row w b vs) (hsz:o+sLen*el.sz+news.size<=vs.size) (h1c:∀ u ∈ news.toList,u.oneCell'=true) :
    (Builtin.append_ ats r #[.slice (some ⟨b,o,none⟩) sLen sCap,x]).run P w = .ok (.slice (some ⟨b,o,none⟩) (sLen+n) sCap) (setRow w b (o+sLen*el.sz) news.toList):=by
 obtain⟨fi,hi,_,hs,_⟩:=jU he;have hfalse:((d matches .int _):Bool)=false:=by cases d<;>first|rfl|exact absurd rfl (hd _)
 have hst:=yO (P:=P) (b:=b) (o:=o+sLen*el.sz) news.toList w vs 0 hr (by simpa using hsz) h1c;unfold Builtin.append_;simp only[gY,gy,gA,h0,h1,Sem.run_bind,bl hu,Result.andThen_ok,dN hi,hs,bl hx,Sem.run_pure,hfalse,hl,Bool.false_eq_true,if_false,if_pos hc,hn,gk,if_true,add_plain];rw[hst];simp
def J5 {ats : Array TypeId} {r sT xT e : TypeId} {d : TypeDesc} {el : El} {sLen sCap n : Nat} {x : Value} {news : Array Value}
    (h0:ats[0]? = some sT) (h1:ats[1]? = some xT) (hu:P.underlying sT=some (.slice e)) (hx:P.underlying xT=some d) (hd:∀ k,d≠ .int k) (he:mw P e=some el)
    (hl:(Builtin.lenOf x).run P w = .ok n w) (hc:sLen+n<=sCap) (hn:(Builtin.firstCells el.sz n x).run P w = .ok news w) :
    (Builtin.append_ ats r #[.slice none sLen sCap,x]).run P w = .ok (.slice none (sLen+n) sCap) w:=by
 obtain⟨fi,hi,_,hs,_⟩:=jU he;have hfalse:((d matches .int _):Bool)=false:=by cases d<;>first|rfl|exact absurd rfl (hd _)
 unfold Builtin.append_;simp only[gY,gy,gA,h0,h1,Sem.run_bind,bl hu,Result.andThen_ok,dN hi,hs,bl hx,Sem.run_pure,hfalse,hl,Bool.false_eq_true,if_false,if_pos hc,hn,gk,if_true]
def T8{el:El}{xs:List AV}{us:Array Value}(h:jV g w el xs us)(hs:us.size=xs.length*el.sz)(hf:∀ i,i<xs.length->(xs.getD i .undef).fits el=true): ∀ u ∈ us.toList,u.oneCell'=true:=by
 intro u hu;obtain⟨k,hk,rfl⟩:=List.mem_iff_getElem.1 hu;simp only[fI]at hk
 have hz:0<el.sz:=by
  rcases Nat.eq_zero_or_pos el.sz with e|e
  ·rw[e]at hs;omega
  ·exact e
 have h1:k / el.sz<xs.length:=(Nat.div_lt_iff_lt_mul hz).2 (by omega);have h2:k % el.sz<el.sz:=Nat.mod_lt _ hz;have:=h _ _ h1 h2;rw[Nat.div_add_mod' k el.sz]at this
 have hsc:((xs.getD (k / el.sz) .undef).cell (k % el.sz)).scalar=true:=by
  have hft:=hf _ h1;generalize xs.getD (k / el.sz) .undef=y at hft
  cases y<;>simp only[AV.fits,Bool.and_eq_true,beq_iff_eq]at hft<;>first
   |(obtain⟨⟨_,q1⟩,q2⟩:=hft;exact Pu q2 (by omega))
   | rfl
   | cases hft
 have:=this.Rw hsc;simpa[hk]using this
def J6 {T : Option TypeId} {ats : Array TypeId} {r sT xT e : TypeId} {d : TypeDesc} {el : El} {x y : AV} {a b : Value} (hR : Rel g w σ)
    (h0:ats[0]? = some sT) (h1:ats[1]? = some xT) (hu:P.underlying sT=some (.slice e)) (hd':P.underlying xT=some d) (hd:∀ k,d≠ .int k) (he:mw P e=some el)
    (hx:VR g w x a) (hy:VR g w y b) (hT:T=none\/T=some e) (YC:uL σ T el x y K):bQ P (Builtin.append_ ats r #[a,b]) g w σ K:=by
 obtain⟨ys,news,hK,hl,J7,hsz,hh⟩:=BN (P:=P) hR hy YC;clear YC;obtain⟨hfit,hK⟩:=hK
 have ZK:∀ i,i<ys.length->(ys.getD i .undef).fits el=true:=fun i hi=>by
  have:=bx.1 hfit (ys[i]) (fY _);simpa[hi]using this
 have h1c:=T8 hh hsz ZK;have hn:∀ dr,(Builtin.firstCells el.sz ys.length b).run P { w with drawn:=dr } = .ok news { w with drawn:=dr }:=fun dr=>J7 _ rfl
 have hty:∀ (w1:World) (vs:Array Value),Ar (World.alloc w1 (.cells vs e)) w1.heap.size vs.size T:=fun w1 vs=>by
  rcases hT with rfl|rfl
  ·trivial
  ·have:(World.alloc w1 (.cells vs e)).heap[w1.heap.size]? = some (.cells vs e):=heap_alloc_new w1 _;simp only[Ar,World.shape?,this]
 have fresh:∀ (xs:List AV) (olds:Array Value) (base:Option Addr) (sCap:Nat),a = .slice base xs.length sCap->sCap<xs.length+ys.length->fS (xs.length+ys.length) el ->
  (∀ dr,(Builtin.firstCells el.sz xs.length (.slice base xs.length sCap)).run P { w with drawn:=dr } = .ok olds { w with drawn:=dr }) ->
  olds.size=xs.length*el.sz->jV g w el xs olds->(∀ i,i<xs.length->(xs.getD i .undef).fits el=true) ->
  ∃ cap rest dr, xs.length + ys.length <= cap /\ rest.size = (cap - (xs.length + ys.length)) * el.sz /\ (olds ++ news ++ rest).size = cap * el.sz /\ jV g w el (xs ++ ys) (olds ++ news ++ rest) /\ (∀ i, i < (xs ++ ys).length -> ((xs ++ ys).getD i .undef).fits el = true) /\
    (Builtin.append_ ats r #[a,b]).run P w = .ok (.slice (some ⟨w.heap.size,0,none⟩) (xs.length+ys.length) cap) (World.alloc { w with drawn:=dr } (.cells (olds++news++rest) e)):=by
  intro xs olds base sCap ha hc hr ho hos hoh hof;obtain⟨cap,rest,dr,k1,k2,k3⟩:=acG (P:=P) (r:=r) h0 h1 hu hd' hd he hl hc hr ho hn;refine⟨cap,rest,dr,k1,k2,?_,hoh.append hh hos hsz,fun i hi=>?_,by rw[ha];exact k3⟩
  ·simp only[Array.size_append,hos,hsz,k2];rw[<-dK,<-dK]
   congr 1
   omega
  ·simp only[List.length_append]at hi;by_cases h:i<xs.length
   ·have:=hof i h;simpa[List.getElem?_append_left h]using this
   ·obtain⟨j,rfl⟩:∃ j,i=xs.length+j:=⟨i-xs.length,by omega⟩;have:=ZK j (by omega);simpa[bU]using this
 have pushed:∀ (zs:List AV) (vs:Array Value) (cap dr:Nat),zs.length<=cap->vs.size=cap*el.sz->jV g w el zs vs->(∀ i,i<zs.length->(zs.getD i .undef).fits el=true) ->
  ∃ g', Rel g' (World.alloc { w with drawn := dr } (.cells vs e)) (σ ++ [.cn T el zs]) /\ gN σ g w (σ ++ [.cn T el zs]) g' (World.alloc { w with drawn := dr } (.cells vs e)) /\
    VR g' (World.alloc { w with drawn:=dr } (.cells vs e)) (.own el σ.length zs.length 0 zs.length) (.slice (some ⟨w.heap.size,0,none⟩) zs.length cap):=by
  intro zs vs cap dr k1 k2 k3 k4;have hR':=hR.drew dr;have hm:=lW g { w with drawn:=dr } (.cells vs e) zs.length (some w.heap.size) cap hR'.lt
  obtain⟨r1,r2⟩:=hR'.yN (.cells vs e) (.cn T el zs) zs.length cap
   ⟨by simp[aO.push],k4,.inr ⟨w.heap.size,vs,by simp[aO.push],wA _ vs e,by simp[aO.push,k2],by simp[aO.push,k1],fun i c hi hc=>((k3 i c hi hc).mono (gN.drew σ g w dr).mono).mono hm,hty _ _⟩⟩
  refine⟨_,r1,(gN.drew σ g w dr).trans r2,.own _ _ _ _ _ _ ⟨by simp[aO.push,hR.len],by simp[aO.push,hR.len],_,_,rfl,fun _=>⟨by omega,by simp[aO.push,hR.len],fun _=>by simp[aO.push,hR.len]⟩⟩⟩
 cases hx<;>(try exact False.elim hK)
 case ae =>
  simp only at hK;split at hK
  ·rename_i hz;refine⟨.slice none 0 0,w,g,.ae,σ,?_,hR,.refl _ _ _,.ae,hK⟩;have:=J5 (P:=P) (r:=r) (sLen:=0) (sCap:=0) h0 h1 hu hd' hd he hl (by omega) (J7 w rfl);rw[this];simp[hz]
  ·rename_i hz;obtain⟨hr,hK⟩:=hK;obtain⟨cap,rest,dr,k1,k2,k3,k4,k5,k6⟩:=fresh [] #[] none 0 rfl (by simp;omega) (by simpa using hr) (fun _=>rfl) (by simp) (fun i c hi=>absurd hi (eF _)) (fun i hi=>absurd hi (eF _));simp only[List.nil_append,List.length_nil,dX]at k1 k4 k5 k6;obtain⟨g',r1,r2,r3⟩:=pushed ys _ cap dr k1 k3 k4 k5;exact⟨_,_,g',_,_,k6,r1,r2,r3,hK⟩
 case mq f bN base cap hf =>
  cases f with
  | false=>exact hK.elim
  | true =>
    obtain⟨rfl,hK⟩:=hK;have hcap:cap=0:=hf rfl;subst hcap;split at hK
    ·rename_i hz;refine⟨.slice base 0 0,w,g,.aK true bN [],σ,?_,hR,.refl _ _ _,.mq _ _ _ _ hf,hK⟩;cases base with
     | none =>
       have:=J5 (P:=P) (r:=r) (sLen:=0) (sCap:=0) h0 h1 hu hd' hd he hl (by omega) (J7 w rfl);rw[this];simp[hz]
     | some A =>
       obtain⟨fi,hi,_,hs,_⟩:=jU he;have hfalse:((d matches .int _):Bool)=false:=by cases d<;>first|rfl|exact absurd rfl (hd _)
       have hne:news = #[]:=by rw[hz]at hsz;exact Array.eq_empty_of_size_eq_zero (by simpa using hsz)
       have Hi:=J7 w rfl;rw[hne,hz]at Hi;rw[hz]at hl;unfold Builtin.append_;simp only[gY,gy,gA,h0,h1,Sem.run_bind,bl hu,Result.andThen_ok,dN hi,hs,bl hd',Sem.run_pure,hfalse,hl,Bool.false_eq_true,if_false,dI,Nat.le_refl,if_true,Hi,gk];simp[storeCells]
    ·rename_i hz;obtain⟨hr,hK⟩:=hK;obtain⟨cap,rest,dr,k1,k2,k3,k4,k5,k6⟩:=fresh [] #[] base 0 rfl (by simp;omega) (by simpa using hr) (fun _=>by cases base<;>simp[Builtin.firstCells,loadCells,loadCellsFrom]) (by simp) (fun i c hi=>absurd hi (Nat.not_lt_zero _)) (fun i hi=>absurd hi (Nat.not_lt_zero _));simp only[List.nil_append,List.length_nil,dX]at k1 k4 k5 k6 hK;obtain⟨g',r1,r2,r3⟩:=pushed ys _ cap dr k1 k3 k4 k5;exact⟨_,_,g',_,_,k6,r1,r2,r3,hK⟩
 case aK f bN xs b' off cap him hf hxc ft hc h =>
  cases f with
  | false=>exact hK.elim
  | true =>
    obtain⟨rfl,hK⟩:=hK;have hcap:cap=xs.length:=hf rfl;subst hcap;have Ve:VR g w (.aK true bN xs) (.slice (some ⟨b',off,none⟩) xs.length xs.length):= .aK true bN xs b' off _ him hf hxc ft hc h;split at hK
    ·rename_i hz;refine⟨.slice (some ⟨b',off,none⟩) xs.length xs.length,w,g,.aK true bN xs,σ,?_,hR,.refl _ _ _,Ve,hK⟩;obtain⟨fi,hi,_,hs,_⟩:=jU he;have hfalse:((d matches .int _):Bool)=false:=by cases d<;>first|rfl|exact absurd rfl (hd _)
     have hne:news = #[]:=by rw[hz]at hsz;exact Array.eq_empty_of_size_eq_zero (by simpa using hsz)
     have Hi:=J7 w rfl;rw[hne,hz]at Hi;rw[hz]at hl;unfold Builtin.append_;simp only[gY,gy,gA,h0,h1,Sem.run_bind,bl hu,Result.andThen_ok,dN hi,hs,bl hd',Sem.run_pure,hfalse,hl,Bool.false_eq_true,if_false,dI,Nat.le_refl,if_true,Hi,gk];simp[storeCells]
    ·rename_i hz;obtain⟨hr,hK⟩:=hK;obtain⟨xs',olds,q1,q2,q3,q4,q5⟩:=BN (P:=P) (K:=fun zs=>zs=xs) (el:=bN) hR Ve (by simp[iA]);subst q1;obtain⟨cap,rest,dr,k1,k2,k3,k4,k5,k6⟩:=fresh xs' olds _ xs'.length rfl (by omega) hr (fun _=>q3 _ rfl) q4 q5 ft;obtain⟨g',r1,r2,r3⟩:=pushed (xs'++ys) _ cap dr (by simpa using k1) k3 k4 k5;simp only[List.length_append]at r3;exact⟨_,_,g',_,_,k6,r1,r2,r3,hK⟩
 case own bN l m lo n h =>
  obtain⟨rfl,hK⟩:=hK;have Ve:VR g w (.own bN l m lo n) a:= .own _ _ _ _ _ _ h;obtain⟨q1,q2,A,cap,rfl,q3⟩:=h;split at hK
  ·rename_i T' dM xs hxs;obtain⟨hTT,rfl,rfl,rfl,rfl,hr,hK⟩:=hK;obtain⟨o1,o2,o3⟩:=hR.ok l _ hxs;obtain⟨q4,q5,q6⟩:=q3 o1.symm;by_cases hc:xs.length+ys.length<=cap
   ·
    rcases Nat.eq_zero_or_pos ys.length with hz|hz
    ·
     have hne:news = #[]:=by rw[hz]at hsz;exact Array.eq_empty_of_size_eq_zero (by simpa using hsz)
     have hys:ys=[]:=List.eq_nil_of_length_eq_zero hz;subst hys
     have v7 : σ.set l (.cn T' dM xs) = σ:=by
      apply List.ext_getElem?;intro k;by_cases e:k=l
      ·subst e;rw[List.getElem?_set_self (by have:=(aN.1 hxs).1;exact this)];exact hxs.symm
      ·rw[aH (Ne.symm e)]
     simp only[List.length_nil,dI,List.append_nil,v7]at hK;refine⟨.slice A xs.length cap,w,g,.own dM l xs.length 0 xs.length,σ,?_,hR,.refl _ _ _,Ve,hK⟩;obtain⟨fi,hi,_,hs,_⟩:=jU he;have hfalse:((d matches .int _):Bool)=false:=by cases d<;>first|rfl|exact absurd rfl (hd _)
     have Hi:=J7 w rfl;rw[hne]at Hi;simp only[List.length_nil,dI]at hc Hi hl;unfold Builtin.append_;simp only[gY,gy,gA,h0,h1,Sem.run_bind,bl hu,Result.andThen_ok,dN hi,hs,bl hd',Sem.run_pure,hfalse,hl,Bool.false_eq_true,if_false,dI,if_pos hc,Hi,gk,if_true];cases A<;>simp[storeCells]
    ·rcases o3 with⟨rfl,o4,o5⟩|⟨b',vs,b1,b2,b3,b4,b5,b6⟩
     ·simp at q5 hc;omega
     ·have q7:=q6 (by omega);rw[b1]at q7;simp only[gC]at q7;subst q7;have ag8:g.cap l=cap:=by omega
      have hroom:(xs.length+ys.length)*dM.sz<=vs.size:=by rw[b3,ag8];exact bG _ hc
      rw[dK]at hroom;have hrun:=Xp (P:=P) (r:=r) (b:=b') (o:=0*dM.sz) (sLen:=xs.length) h0 h1 hu hd' hd he hl hc (J7 w rfl) b2 (by omega) h1c;obtain⟨f1,f2,f3,f4,f5⟩:=Ct w b' (0*dM.sz+xs.length*dM.sz) news.toList
      obtain⟨r1,r2⟩:=hR.change (o':= .cn T' dM (xs++ys)) (w':=setRow w b' (0*dM.sz+xs.length*dM.sz) news.toList) hxs rfl (xs.length+ys.length) (some b') (g.cap l) (by omega) (fun e=>by omega) (by omega) f2 f3 f4
       (fun c hc' hne=>f5 c (fun e=>hne (e ▸ b1))) (fun c hc'=> .inl (by rw[b1,hc']))
       (fun hm => ⟨by simp [aO.reset], fun i hi => by
         simp only[List.length_append]at hi;by_cases h:i<xs.length
         ·have:=o2 i h;simpa[List.getElem?_append_left h]using this
         ·obtain⟨j,rfl⟩:∃ j,i=xs.length+j:=⟨i-xs.length,by omega⟩;have:=ZK j (by omega);simpa[bU]using this,
         .inr ⟨b',_,by simp[aO.reset],b2.setRow _ _,by rw[size_putRow];simp[aO.reset,b3],by simp[aO.reset];omega,fun i c hi hc'=>by
          simp only[List.length_append]at hi;rw[uR _ _ _ (by simp;omega)];simp only[fI,hsz];by_cases h:i<xs.length
          ·have h2:=zN h hc';rw[if_neg (by omega),show(xs++ys).getD i .undef=xs.getD i .undef by simp[List.getElem?_append_left h]];exact(b5 i c h hc').mono hm
          ·obtain⟨j,rfl⟩:∃ j,i=xs.length+j:=⟨i-xs.length,by omega⟩;have hj:j<ys.length:=by omega
           have h2:=zN hj hc'
           rw[dK,if_pos (by omega),show(xs++ys).getD (xs.length+j) .undef=ys.getD j .undef by simp[bU],
            show xs.length*dM.sz+j*dM.sz+c-(0*dM.sz+xs.length*dM.sz)=j*dM.sz+c by omega]
           have:=(hh j c hj hc').mono hm;have h3:j*dM.sz+c<news.size:=by omega
           simpa[h3]using this,by
          cases T' with
          | none=>trivial
          | some T'=>rw[size_putRow];exact(Cu _ _ _ _ _).trans b6⟩⟩)
      refine⟨_,_,_,_,_,hrun,r1,r2,.own _ _ _ _ _ _ ⟨by simp[aO.reset];exact q1,by simp[aO.reset],_,_,rfl,fun _=>⟨by omega,by simp[aO.reset];omega,fun _=>by simp[aO.reset]⟩⟩,hK⟩
   ·
    obtain⟨xs',olds,p1,p2,p3,p4,p5⟩:=BN (P:=P) (K:=fun zs=>zs=xs) (el:=dM) hR Ve (by simp[iA,hxs]);subst p1;obtain⟨cap',rest,dr,k1,k2,k3,k4,k5,k6⟩:=fresh xs' olds A cap rfl (by omega) hr (fun _=>p3 _ rfl) p4 p5 o2;have hR':=hR.drew dr
    obtain⟨r1,r2⟩:=hR'.change (o':= .cn T' dM (xs'++ys)) (w':=World.alloc { w with drawn:=dr } (.cells (olds++news++rest) e)) hxs rfl (xs'.length+ys.length) (some w.heap.size) cap' (by omega)
     (fun e => by
       have hys:ys.length=0:=by omega
       have:¬ (xs'.length<=cap):=by omega
       have:xs'.length<=g.cap l:=by
        rcases o3 with⟨rfl,_,_⟩|⟨b',vs,b1,b2,b3,b4,b5⟩
        ·exact bP _
        ·exact b4
       omega) (by simp) rfl rfl rfl
     (fun c hc' _=>heap_alloc_old _ _ hc') (fun c hc'=> .inr (by cases hc';exact Nat.le_refl _))
     (fun hm => ⟨by simp [aO.reset], k5, .inr ⟨w.heap.size, _, by simp [aO.reset], wA { w with drawn := dr } _ e, by simp only [aO.reset, if_true]; exact k3, by simp [aO.reset]; exact k1, fun i c hi hc' => ((k4 i c hi hc').mono (gN.drew σ g w dr).mono).mono hm, by
       rcases hTT with rfl|rfl
       ·trivial
       ·exact hty { w with drawn:=dr } _⟩⟩)
    refine⟨_,_,_,_,_,k6,r1,(gN.drew σ g w dr).trans r2,.own _ _ _ _ _ _ ⟨by simp[aO.reset];exact q1,by simp[aO.reset],_,_,rfl,fun _=>⟨by omega,by simp[aO.reset],fun _=>by simp[aO.reset]⟩⟩,hK⟩
  ·exact hK.elim
def Xq {T : Option TypeId} {ats : Array TypeId} {r sT xT e : TypeId} {d : TypeDesc} {el : El} {x y : AV} {a b : Value} {n : Nat} {ys : List AV} (hR : Rel g w σ)
    (h0:ats[0]? = some sT) (h1:ats[1]? = some xT) (hu:P.underlying sT=some (.slice e)) (hd':P.underlying xT=some d) (hd:∀ k,d≠ .int k) (he:mw P e=some el)
    (hx:VR g w x a) (hy:VR g w y b) (hT:T=none\/T=some e) (hn : σ[n]? = some .lM) (hys:G_ el y=some ys) (hx0:G9 el x=true) (hfit:ys.all (fun a=>a.fits el)=true) (hroom:fS ys.length el)
    (hK:K (.own el n ys.length 0 ys.length) (σ.set n (.cn T el ys))):bQ P (Builtin.append_ ats r #[a,b]) g w σ K:=by
 obtain⟨r1,r2⟩:=hR.aec hn T el;obtain⟨v0,b0,c0⟩:=hR.ok n _ hn;have hlt:=(aN.1 hn).1
 have hx':VR g w (.own el n 0 0 0) a:=by
  have:∃ base,a = .slice base 0 0:=by
   cases hx<;>simp only[G9]at hx0<;>(try (cases hx0;done))
   case ae=>exact⟨none,rfl⟩
   case mq f bN b cap hf =>
    cases f with
    | false=>cases hx0
    | true=>exact⟨b,by rw[hf rfl]⟩
   case aK f bN xs b off cap hi hf hx ft hc h =>
    cases f with
    | false=>cases hx0
    | true =>
      simp only[aF,List.isEmpty_iff]at hx0;obtain⟨_,rfl⟩:=hx0;exact⟨_,by rw[hf rfl];rfl⟩
  obtain⟨base,rfl⟩:=this;refine .own _ _ _ _ _ _ ⟨by rw[<-hR.len];exact hlt,bP _,base,0,rfl,fun _=>⟨Nat.le_refl _,by rw[c0],fun h=>by rw[c0]at h;exact absurd h (fO _)⟩⟩
 have hA:uL (σ.set n (.cn T el [])) T el (.own el n 0 0 0) y K:=by
  have v7:(σ.set n (.cn T el []))[n]? = some (.cn T el []):=List.getElem?_set_self hlt
  have key:ys.all (fun a=>a.fits el)=true/\(el=el/\match (σ.set n (.cn T el []))[n]? with
   | some (.cn T' dM xs) => (T' = none \/ T' = T) /\ dM = el /\ 0 = xs.length /\ 0 = 0 /\ 0 = xs.length /\ fS (xs.length + ys.length) el /\
     K (.own el n (xs.length+ys.length) 0 (xs.length+ys.length)) ((σ.set n (.cn T el [])).set n (.cn T' el (xs++ys)))
   | _=>False):=by
   refine⟨hfit,rfl,?_⟩;rw[v7];refine⟨.inr rfl,rfl,rfl,rfl,rfl,by simpa using hroom,?_⟩;simpa[h_]using hK
  unfold uL iA;cases y<;>simp only[G_]at hys<;>(try (cases hys;done))
  ·cases hys;exact key
  ·split at hys
   ·rename_i h;cases hys;exact⟨h,key⟩
   ·cases hys
 obtain⟨v,w',g',av,σ',q1,q2,q3,q4,q5⟩:=J6 r1 h0 h1 hu hd' hd he hx' hy hT hA;exact⟨v,w',g',av,σ',q1,q2,r2.trans q3,q4,q5⟩
end
end Go.AM
