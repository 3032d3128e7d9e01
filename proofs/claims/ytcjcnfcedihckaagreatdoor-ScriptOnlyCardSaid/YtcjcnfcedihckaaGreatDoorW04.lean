/- Part. -/
import Derived.Test.YtcjcnfcedihckaaGreatDoorW03
set_option linter.all false
namespace Go.AM
section
variable {P:Program} {g:aJ} {w:World} {σ : ae} {K:AV->ae->Prop}
def add_plain(b o n:Nat): (⟨b,o,none⟩:Addr).add n=⟨b,o+n,none⟩:=by
 unfold Addr.add;split
 ·rename_i h;subst h;rfl
 ·rfl
def nV {b o : Nat} : ∀ (us : List Value) (w : World) (vs : Array Value) (i : Nat), Row w b vs -> o + i + us.length <= vs.size -> (∀ u ∈ us, u.oneCell' = true) ->
    (storeCells ⟨b,o,none⟩ us i).run P w = .ok () (setRow w b (o+i) us):=by
 intro us
 induction us with
 | nil=>intro w vs i _ _ _;rfl
 | cons u us ih =>
   intro w vs i hr hl h1;simp only[List.length_cons]at hl;have hc:=hr.cell (i:=o+i) (by omega);obtain⟨T,fz,_,hf⟩:=id hr;simp only[storeCells,Sem.run_bind,add_plain];rw[run_store P w _ u .plain (h1 u (List.mem_cons_self ..)),hc];simp only[hf (o+i) (by omega),aB,if_false,Result.andThen_ok];rw[ih _ (vs.setIfInBounds (o+i) u) (i+1) (hr.set (o+i) u) (by simp;omega) (fun x hx=>h1 x (bI _ hx))];rfl
def fE(cs:List AV)(i:Nat)(az:List AV): (eE cs i az).length=cs.length:=by
 induction az generalizing cs i with
 | nil=>rfl
 | cons a az ih=>simp[eE,ih]
def mw (cs : List AV) (i : Nat) (az : List AV) (hi : i + az.length <= cs.length) (j : Nat) :
    (eE cs i az).getD j .undef=if i<=j/\j<i+az.length then az.getD (j-i) .undef else cs.getD j .undef:=by
 induction az generalizing cs i with
 | nil=>simp[eE];intro h1 h2;omega
 | cons a az ih =>
   simp only[List.length_cons]at hi;rw[eE,ih (cs.set i a) (i+1) (by simp;omega)];by_cases h1:i+1<=j/\j<i+1+az.length
   ·rw[if_pos h1,if_pos (by simp only[List.length_cons];omega)];obtain⟨k,rfl⟩:∃ k,j=i+1+k:=⟨j-(i+1),by omega⟩;rw[show i+1+k-(i+1)=k by omega,show i+1+k-i=k+1 by omega];simp
   ·rw[if_neg h1];by_cases h2:j=i
    ·subst h2;rw[if_pos (by simp only[List.length_cons];omega)];have hlt:j<cs.length:=by omega
     simp[hlt]
    ·rw[if_neg (by simp only[List.length_cons];omega)];simp[List.getElem?_set_ne (Ne.symm h2)]
def yM{cs:List AV}(h:cs.all AV.scalar=true)(i:Nat){az:List AV}(ha:az.all AV.scalar=true): (eE cs i az).all AV.scalar=true:=by
 induction az generalizing cs i with
 | nil=>exact h
 | cons a az ih =>
   simp only[List.all_cons,aq]at ha;refine ih ?_ (i+1) ha.2;rw[aX]at h ⊢;intro x hx;rcases List.mem_or_eq_of_mem_set hx with hx|rfl
   ·exact h x hx
   ·exact ha.1
def MR{g:aJ}{w:World}{a:AV}{v:Value}(h:VR g w a v)(hs:a.cells.all AV.scalar=true): ∀ u ∈ v.cells.toList,u.oneCell'=true:=by
 obtain⟨h1,h2⟩:=kU h hs;intro u hu;obtain⟨i,hi,rfl⟩:=List.mem_iff_getElem.1 hu;simp at hi;have:=(h2 i (by omega)).DI (wj hs (by omega));simpa[hi]using this
def Eu {n : Nat} {p x : AV} {v : Value} {us : List Value} {Kσ : ae -> Prop} (hR : Rel g w σ) (hv : VR g w p v) (c1 : x.cells.length = us.length)
    (c2:∀ i,i<x.cells.length->VR g w (x.cells.getD i .undef) (us.getD i Go.undef)) (h1:∀ u ∈ us,u.oneCell'=true)
    (hK:nT σ n p x Kσ) :
    ∃ A w' g' σ',v = .pointer (some A)/\(storeCells A us).run P w = .ok () w'/\Rel g' w' σ'/\fC σ g w σ' g' w'/\Kσ σ':=by
 obtain⟨hn,hs,hK⟩:=hK;cases hv<;>simp only at hK
 case ref l off h =>
  obtain⟨hl,A,rfl,vP⟩:=h;split at hK
  ·rename_i T cs hcs;obtain⟨k1,k2⟩:=hK;obtain⟨o1,o2,b,vs,o3,o4,o5,o6,o7⟩:=hR.ok l _ hcs;obtain⟨a1,a2⟩:=vP o1;have hb:A.block=b:=by rw[a1]at o3;cases o3;rfl
   have hrun:=nV (P:=P) (b:=b) (o:=off) us w vs 0 o4 (by simp;omega) h1;obtain⟨f1,f2,f3,f4,f5⟩:=nR w b (off+0) us
   obtain⟨r1,r2⟩:=hR.update (o':= .cg T (eE cs off x.cells)) hcs rfl o3 f1 f2 f3 f4 f5
    (fun hm => ⟨o1, yM o2 _ hs, b, _, o3, o4.setRow (off + 0) _, by rw [size_putRow, fE]; exact o5, fun j hj => by
      rw[fE]at hj;rw[mw _ _ _ (by omega),lX _ _ _ (by simp;omega)];simp only[cQ,<-c1];split
      ·rename_i hh;have:=(c2 (j-off) (by omega)).mono hm;simpa using this
      ·exact(o6 j hj).mono hm,by
       cases T with
       | none=>trivial
       | some T=>rw[fE];exact(pG _ _ _ _ _).trans o7⟩)
   refine⟨A,_,g,_,rfl,?_,r1,r2,k2⟩;rw[a2,hb];simpa using hrun
  ·exact hK.elim
 case eJ el l m j off h =>
  obtain⟨hl,hm,A,rfl,vP⟩:=h;split at hK
  ·rename_i T bq xs hxs;obtain⟨rfl,rfl,k3,k4,k5,k6⟩:=hK;obtain⟨o1,o2,o3⟩:=hR.ok l _ hxs;rcases o3 with⟨rfl,_,_⟩|⟨b,vs,b1,b2,b3,b4,b5,b6⟩
   ·exact absurd k3 (cG _)
   ·obtain⟨a1,a2⟩:=vP o1.symm;have hb:A.block=b:=by rw[a1]at b1;cases b1;rfl
    have hrow:g.off l+j*bq.sz+bq.sz<=vs.size:=by
     rw[b3];have:j*bq.sz+bq.sz<=g.cap l*bq.sz:=by rw[<-cM];exact aY _ (by omega)
     omega
    have hrun:=nV (P:=P) (b:=b) (o:=g.off l+j*bq.sz+off) us w vs 0 b2 (by simp;omega) h1;obtain⟨f1,f2,f3,f4,f5⟩:=nR w b (g.off l+j*bq.sz+off+0) us;have hfit:=o2 j k3
    have hnew:(if bq.ag then AV.agg (eE (xs.getD j .undef).cells off x.cells)else x).fits bq=true /\
     ∀ c,c<bq.sz->(if bq.ag then AV.agg (eE (xs.getD j .undef).cells off x.cells)else x).cell c=(if off<=c/\c<off+n then x.cells.getD (c-off) .undef else(xs.getD j .undef).cell c):=by
     cases hag:bq.ag with
     | true =>
       generalize hy:xs.getD j .undef=y at hfit;cases y<;>simp only[AV.fits,hag,Bool.not_true,Bool.false_and,Bool.true_and,Bool.and_eq_true,beq_iff_eq,Bool.false_eq_true]at hfit
       case agg cs =>
        refine⟨?_,fun c hc=>?_⟩
        ·show(bq.ag && (eE cs off x.cells).length==bq.sz && (eE cs off x.cells).all AV.scalar)=true;rw[hag,fE,yM hfit.2 off hs,hfit.1];simp
        ·show(eE cs off x.cells).getD c .undef=_;rw[mw _ _ _ (by omega),hn];rfl
     | false =>
       have hx:=k5 hag;have hsz:=IW hfit hag
       have qD:x.cells=[x]/\ ∀ c,x.cell c=x:=by
        cases x<;>first
         |(simp[AV.fits,hag]at hx;done)
         | exact⟨rfl,fun _=>rfl⟩
       have hn1:n=1:=by rw[<-hn,qD.1];rfl
       refine⟨by simpa using hx,fun c hc=>?_⟩;have h0:c=0/\off=0:=by omega
       obtain⟨rfl,rfl⟩:=h0;rw[if_neg (by simp),qD.2,if_pos (by omega),qD.1];rfl
    obtain⟨n1,n2⟩:=hnew;generalize (if bq.ag then AV.agg (eE (xs.getD j .undef).cells off x.cells)else x)=y at n1 n2 k6
    obtain⟨r1,r2⟩:=hR.update (o':= .cz T bq (xs.set j y)) hxs rfl b1 f1 f2 f3 f4 f5
     (fun hm => ⟨by simpa using o1, fun i' hi' => by
       simp only[iA]at hi';by_cases e:i'=j
       ·subst e;simpa[k3]using n1
       ·have:=o2 i' hi';simpa[List.getElem?_set_ne (Ne.symm e)]using this,
       .inr ⟨b,_,b1,b2.setRow _ _,by rw[size_putRow];exact b3,by simpa using b4,fun i' c hi' hc=>by
        simp only[iA]at hi';rw[lX _ _ _ (by simp;omega)];simp only[cQ,<-c1,hn];by_cases e:i'=j
        ·subst e;rw[show (xs.set i' y).getD i' .undef=y by simp[k3],n2 c hc];by_cases h2:off<=c/\c<off+n
         ·rw[if_pos h2,if_pos (by omega),show g.off l+i'*bq.sz+c-(g.off l+i'*bq.sz+off)=c-off by omega];have:=(c2 (c-off) (by omega)).mono hm;simpa using this
         ·rw[if_neg h2,if_neg (by omega)];exact(b5 i' c hi' hc).mono hm
        ·rw[show (xs.set j y).getD i' .undef=xs.getD i' .undef by simp[List.getElem?_set_ne (Ne.symm e)]]
         have hne:¬ (g.off l+j*bq.sz+off<=g.off l+i'*bq.sz+c/\g.off l+i'*bq.sz+c<g.off l+j*bq.sz+off+n):=by
          rintro⟨q1,q2⟩;rcases Nat.lt_or_gt_of_ne e with h2|h2
          ·have:(i'+1)*bq.sz<=j*bq.sz:=aY _ h2;rw[cM]at this;omega
          ·have:(j+1)*bq.sz<=i'*bq.sz:=aY _ h2;rw[cM]at this;omega
         rw[if_neg hne];exact(b5 i' c hi' hc).mono hm,by
        cases T with
        | none=>trivial
        | some T=>rw[size_putRow];exact⟨(pG _ _ _ _ _).trans b6.1,b6.2⟩⟩⟩)
    refine⟨A,_,g,_,rfl,?_,r1,r2,k6⟩;rw[a2,hb];simpa using hrun
  ·exact hK.elim
def Ph {t : TypeId} {i : TypeInfo} {p x : AV} {v u : Value} (hR : Rel g w σ) (hi : P.info? t = some i) (hv : VR g w p v) (hu : VR g w x u)
    (hK:nT σ i.size p x fun σ'=>K (.bU []) σ') :
    ∃ w' g' σ',(Instr.storeAt t v u).run P w = .ok () w'/\Rel g' w' σ'/\fC σ g w σ' g' w'/\K (.bU []) σ':=by
 obtain⟨c1,c2⟩:=kU hu hK.2.1;obtain⟨A,w',g',σ',rfl,h2,h3,h4,h5⟩:=Eu (P:=P) (us:=u.cells.toList) hR hv (by simpa using c1) (fun i hi=>by simpa using c2 i hi) (MR hu hK.2.1) hK;refine⟨w',g',σ',?_,h3,h4,h5⟩;have hn:=hK.1;simp only[Instr.storeAt,Instr.sureAddr,Sem.run_bind,Sem.run_pure,Result.andThen_ok,storeVar,cW hi];have e1:¬ u.cells.size≠i.size:=by omega
 simp only[if_neg e1,Sem.run_pure,Result.andThen_ok];exact h2
end
end Go.AM
namespace Go.AM
section
variable {P:Program} {g:aJ} {w:World} {σ : ae} {K:AV->ae->Prop}
def MS(l:List UInt8): (⟨l.toArray⟩:ByteArray).toList=l:=by
 have key:∀ (n:Nat) (b:ByteArray) (i:Nat) (r:List UInt8),b.size-i=n->ByteArray.toList.loop b i r=r.reverse++b.data.toList.drop i:=by
  intro n
  induction n with
  | zero =>
    intro b i r h;unfold ByteArray.toList.loop;rw[if_neg (by omega)]
    have:b.data.toList.length<=i:=by
     have:b.data.toList.length=b.size:=by rw[eF];rfl
     omega
    rw[iY this,bY]
  | succ n ih =>
    intro b i r h;have hi:i<b.size:=by omega
    unfold ByteArray.toList.loop;rw[if_pos hi,ih b (i+1) _ (by omega)];have hi':i<b.data.toList.length:=by rw[eF];exact hi
    have Ev:i<b.data.size:=hi;rw[eZ hi',List.reverse_cons,bx,fx]
    congr 2
    show b.data[i]! = _;rw[getElem!_pos b.data i Ev];simp
 have:=key _ ⟨l.toArray⟩ 0 [] rfl;simpa[ByteArray.toList]using this
def B5 (t : TypeId) (k : IntKind) (n m : Int) (w : World) :
    (binOp .add t (.int k n) (.int k m)).run P w = .ok (.int k (eK k (n+m))) w/\(binOp .sub t (.int k n) (.int k m)).run P w = .ok (.int k (eK k (n-m))) w /\
    (binOp .mul t (.int k n) (.int k m)).run P w = .ok (.int k (eK k (n*m))) w:=by
 simp[binOp,Op.intArith,eK]
def QU (t : TypeId) (k : IntKind) (n m : Int) (w : World) (h : m ≠ 0) :
    (binOp .quo t (.int k n) (.int k m)).run P w = .ok (.int k (eK k (n.tdiv m))) w/\(binOp .rem t (.int k n) (.int k m)).run P w = .ok (.int k (n.tmod m)) w:=by
 simp[binOp,Op.intDiv,eK,h]
def z6 (t : TypeId) (k : IntKind) (n m : Int) (w : World) :
    (binOp .and t (.int k n) (.int k m)).run P w = .ok (.int k (mO .and k n m)) w/\(binOp .or t (.int k n) (.int k m)).run P w = .ok (.int k (mO .or k n m)) w /\
    (binOp .xor t (.int k n) (.int k m)).run P w = .ok (.int k (mO .xor k n m)) w/\(binOp .andNot t (.int k n) (.int k m)).run P w = .ok (.int k (mO .andNot k n m)) w:=by
 simp[binOp,Op.intBits,mO]
def Kl (t : TypeId) (k k' : IntKind) (n m : Int) (w : World) (h : 0 <= m) :
    (binOp .shl t (.int k n) (.int k' m)).run P w = .ok (.int k (eK k (n*2 ^ (Nat.min m.toNat k.bits)))) w/\(binOp .shr t (.int k n) (.int k' m)).run P w = .ok (.int k (n.fdiv (2 ^ (Nat.min m.toNat k.bits)))) w:=by
 have h1:¬ m<0:=by omega
 simp[binOp,Op.shift,eK,h1,Nat.min_def]
def wL (t : TypeId) (k : IntKind) (n m : Int) (w : World) :
    (binOp .eql t (.int k n) (.int k m)).run P w = .ok (.bool (n==m)) w/\(binOp .neq t (.int k n) (.int k m)).run P w = .ok (.bool (!(n==m))) w /\
    (binOp .lss t (.int k n) (.int k m)).run P w = .ok (.bool (decide (n<m))) w/\(binOp .leq t (.int k n) (.int k m)).run P w = .ok (.bool (decide (n<=m))) w /\
    (binOp .gtr t (.int k n) (.int k m)).run P w = .ok (.bool (decide (m<n))) w/\(binOp .geq t (.int k n) (.int k m)).run P w = .ok (.bool (decide (m<=n))) w:=by
 simp[binOp,Op.intCmp,bne]
def wM (t : TypeId) (s u : List UInt8) (w : World) :
    (binOp .eql t (.string ⟨s.toArray⟩) (.string ⟨u.toArray⟩)).run P w = .ok (.bool (s==u)) w/\(binOp .neq t (.string ⟨s.toArray⟩) (.string ⟨u.toArray⟩)).run P w = .ok (.bool (!(s==u))) w /\
    (binOp .lss t (.string ⟨s.toArray⟩) (.string ⟨u.toArray⟩)).run P w = .ok (.bool (Op.bytesLess s u)) w/\(binOp .leq t (.string ⟨s.toArray⟩) (.string ⟨u.toArray⟩)).run P w = .ok (.bool (Op.bytesLess s u || s==u)) w /\
    (binOp .gtr t (.string ⟨s.toArray⟩) (.string ⟨u.toArray⟩)).run P w = .ok (.bool (!(Op.bytesLess s u || s==u))) w/\(binOp .geq t (.string ⟨s.toArray⟩) (.string ⟨u.toArray⟩)).run P w = .ok (.bool (!Op.bytesLess s u)) w:=by
 simp[binOp,Op.stringOp,MS]
def aaj (t : TypeId) (s u : List UInt8) (w : World) (h : ((s.length + u.length : Nat) : Int) <= IntKind.i64.max) :
    (binOp .add t (.string ⟨s.toArray⟩) (.string ⟨u.toArray⟩)).run P w = .ok (.string ⟨(s++u).toArray⟩) w:=by
 have h1:¬ (((⟨s.toArray⟩:ByteArray).size+(⟨u.toArray⟩:ByteArray).size:Nat):Int)>IntKind.i64.max:=by
  simp only[ByteArray.size,List.size_toArray];omega
 simp only[binOp,Op.stringOp,if_neg h1,Sem.run_pure]
 congr 2
def Ut {op : BinOp} {t : TypeId} {x y : AV} {a b : Value} (hR : Rel g w σ) (hx : VR g w x a) (hy : VR g w y b)
    (hK:jJ op x y fun v=>K v σ):bC P (binOp op t a b) g w σ K:=by
 cases hx<;>cases hy<;>(try (cases op<;>exact hK.elim))
 case int.int k n k' m =>
  cases op<;>simp only[jJ]at hK
  case shl=>exact bC.pure hR (Kl t k k' n m w hK.1).1 (.int _ _) hK.2
  case shr=>exact bC.pure hR (Kl t k k' n m w hK.1).2 (.int _ _) hK.2
  all_goals obtain⟨rfl,hK⟩:=hK
  case add=>exact bC.pure hR (B5 t k n m w).1 (.int _ _) hK
  case sub=>exact bC.pure hR (B5 t k n m w).2.1 (.int _ _) hK
  case mul=>exact bC.pure hR (B5 t k n m w).2.2 (.int _ _) hK
  case quo=>exact bC.pure hR (QU t k n m w hK.1).1 (.int _ _) hK.2
  case rem=>exact bC.pure hR (QU t k n m w hK.1).2 (.int _ _) hK.2
  case and=>exact bC.pure hR (z6 t k n m w).1 (.int _ _) hK
  case or=>exact bC.pure hR (z6 t k n m w).2.1 (.int _ _) hK
  case xor=>exact bC.pure hR (z6 t k n m w).2.2.1 (.int _ _) hK
  case andNot=>exact bC.pure hR (z6 t k n m w).2.2.2 (.int _ _) hK
  case eql=>exact bC.pure hR (wL t k n m w).1 (.bool _) hK
  case neq=>exact bC.pure hR (wL t k n m w).2.1 (.bool _) hK
  case lss=>exact bC.pure hR (wL t k n m w).2.2.1 (.bool _) hK
  case leq=>exact bC.pure hR (wL t k n m w).2.2.2.1 (.bool _) hK
  case gtr=>exact bC.pure hR (wL t k n m w).2.2.2.2.1 (.bool _) hK
  case geq=>exact bC.pure hR (wL t k n m w).2.2.2.2.2 (.bool _) hK
 case str.str s u =>
  cases op<;>simp only[jJ]at hK
  case add=>exact bC.pure hR (aaj t s u w hK.1) (.str _) hK.2
  case eql=>exact bC.pure hR (wM t s u w).1 (.bool _) hK
  case neq=>exact bC.pure hR (wM t s u w).2.1 (.bool _) hK
  case lss=>exact bC.pure hR (wM t s u w).2.2.1 (.bool _) hK
  case leq=>exact bC.pure hR (wM t s u w).2.2.2.1 (.bool _) hK
  case gtr=>exact bC.pure hR (wM t s u w).2.2.2.2.1 (.bool _) hK
  case geq=>exact bC.pure hR (wM t s u w).2.2.2.2.2 (.bool _) hK
def Xw{op:UnOp}{x:AV}{a:Value}(hR:Rel g w σ)(hx:VR g w x a)(hK:BV op x fun v=>K v σ): bC P (Op.unary op a) g w σ K:=by
 cases hx<;>(try (cases op<;>exact hK.elim))
 case bool b =>
  cases op<;>simp only[BV]at hK
  case not=>exact bC.pure hR (by simp[Op.unary]) (.bool _) hK
 case int k n =>
  cases op<;>simp only[BV]at hK
  case neg=>exact bC.pure hR (by simp[Op.unary,Op.intArith];rfl) (.int k _) hK
  case xor=>exact bC.pure hR (by simp[Op.unary,Op.intBits];rfl) (.int k _) hK
def Se {s d : TypeId} {k k' : IntKind} {x : AV} {a : Value} (hR : Rel g w σ) (h1 : P.underlying s = some (.int k')) (h2 : P.underlying d = some (.int k)) (hx : VR g w x a)
    (hK:match (generalizing:=false) x with | .int _ n=>K (.int k (eK k n)) σ | _=>False):bC P (convert s d a) g w σ K:=by
 cases hx<;>simp only at hK
 case int k0 n=>exact bC.pure hR (by simp[convert,aQ h1,aQ h2,Conv.intToInt];rfl) (.int k _) hK
def Uu {s d : TypeId} {x : AV} {a : Value} (hR : Rel g w σ) (h1 : P.underlying s = some .string) (h2 : P.underlying d = some .string) (hx : VR g w x a) (hs : ∃ u, x = .str u)
    (hK:K x σ):bC P (convert s d a) g w σ K:=by
 obtain⟨u,rfl⟩:=hs;cases hx;exact bC.pure hR (by simp[convert,aQ h1,aQ h2]) (.str _) hK
def L_ {x : AV} {a : Value} {i : Nat} (hR : Rel g w σ) (hx : VR g w x a) (hK : match (generalizing := false) x with | .bU vs => i < vs.length /\ K (vs.getD i .undef) σ | _ => False) :
    bC P (Instr.extract a i) g w σ K:=by
 cases hx<;>simp only at hK
 case bU cs vs hl h =>
  obtain⟨h1,h2⟩:=hK;have h3:i<vs.size:=by omega
  exact bC.pure hR (v:=vs.getD i Go.undef) (by simp[Instr.extract,h3]) (h i h1) h2
def Sf {t : TypeId} {x y : AV} {a b : Value} (hR : Rel g w σ) (hu : P.underlying t = some .string) (hx : VR g w x a) (hy : VR g w y b)
    (hK:match (generalizing:=false) x,y with | .str s,.int _ k=>0<=k/\k<s.length/\K (.int .u8 (s.getD k.toNat 0).toNat) σ | _,_=>False):bC P (Instr.index t a b) g w σ K:=by
 cases hx<;>cases hy<;>simp only at hK
 case str.int s k n =>
  obtain⟨h1,h2,h3⟩:=hK;have h4:n.toNat<s.length:=by omega
  have h5:(⟨s.toArray⟩:ByteArray)[n.toNat]? = some (s.getD n.toNat 0):=by
   have:n.toNat<(⟨s.toArray⟩:ByteArray).size:=by simpa[ByteArray.size]using h4
   rw[getElem?_pos (⟨s.toArray⟩:ByteArray) n.toNat this]
   congr 1
   simp[ByteArray.getElem_eq_getElem_data,h4]
  refine bC.pure hR ?_ (.int .u8 _) h3;simp only[Instr.index,asIntOf,Sem.run_bind,Sem.run_pure,Result.andThen_ok,aQ hu,if_pos h1,h5]
end
end Go.AM
namespace Go.AM
section
variable {P:Program} {g:aJ} {w:World} {σ : ae} {K:AV->ae->Prop}
def gH{t:TypeId}{el:El}(h:iP P t=some el): ∃ i,P.info? t=some i/\lH P t=some el.ag/\i.size=el.sz/\(el.ag=false->el.sz=1)/\i.bytes<=24*(el.sz+1)/\el.sz<=1000/\ ∃ z,i.zero=some z/\z.cells.size=el.sz:=by
 unfold iP at h;split at h
 ·rename_i ag i h1 h2;split at h
  ·rename_i h3;cases h;simp only[aq,dm,beq_iff_eq,decide_eq_true_eq]at h3;obtain⟨⟨⟨h3,h4⟩,h5⟩,h6⟩:=h3;refine⟨i,h2,h1,rfl,fun(e:ag=false)=>by rw[e]at h3;simpa using h3,h4,h5,?_⟩;cases hz:i.zero with
   | none=>simp[hz]at h6
   | some z=>exact⟨z,rfl,by simpa[hz]using h6⟩
  ·cases h
 ·cases h
def MU {t : TypeId} {ag : Bool} {i : TypeInfo} {cs : List AV} {vs : Array Value} {off : Nat} (hA : lH P t = some ag) (hi : P.info? t = some i) (h1 : ag = false -> i.size = 1)
    (hl:cs.length=vs.size) (hs:cs.all AV.scalar=true) (h:∀ i,i<cs.length->VR g w (cs.getD i .undef) (vs.getD i Go.undef)) (ho:off+i.size<=cs.length) :
    ∃ v,(part t vs off).run P w = .ok v w/\VR g w (if ag then .agg ((cs.drop off).take i.size)else cs.getD off .undef) v:=by
 cases ag with
 | true =>
   refine⟨.agg (vs.extract off (off+i.size)),by simp[part,jR hA,cW hi],?_⟩;refine .agg _ _ (by simp;omega) (oM hs _ _) (fun j hj=>?_);have hj':j<i.size:=by simp at hj;omega
   rw[ia hj'];have:=h (off+j) (by omega);have h2:off+j<vs.size:=by omega
   have h3:j<(vs.extract off (off+i.size)).size:=by simp;omega
   have h4:(vs.extract off (off+i.size)).getD j Go.undef=vs.getD (off+j) Go.undef:=by
    rw[<-dB (h:=h3),<-dB (h:=h2),Array.getElem_extract]
   rw[h4];exact this
 | false =>
   have h2:off<vs.size:=by have:=h1 rfl;omega
   refine⟨vs.getD off Go.undef,by simp[part,jR hA,h2],?_⟩;simpa using h off (by omega)
def Pj {s : TypeId} {fs : Array Field} {f : Nat} {fi : Field} {ag : Bool} {i : TypeInfo} {x : AV} {a : Value} (hR : Rel g w σ) (hu : P.underlying s = some (.struct fs)) (hf : fs[f]? = some fi)
    (hA:lH P fi.type=some ag) (hi:P.info? fi.type=some i) (hx:VR g w x a)
    (hK:match (generalizing:=false) x with | .agg cs=>fi.offset+i.size<=cs.length/\(ag=false->i.size=1)/\K (if ag then .agg ((cs.drop fi.offset).take i.size)else cs.getD fi.offset .undef) σ | _=>False) :
    bC P (Instr.field s a f) g w σ K:=by
 cases hx<;>simp only at hK
 case agg cs vs hl hs h =>
  obtain⟨h1,h2,h3⟩:=hK;obtain⟨v,r1,r2⟩:=MU hA hi h2 hl hs h h1;exact bC.pure hR (by simp[Instr.field,aQ hu,hf,asAgg,r1]) r2 h3
def Pk {s : TypeId} {fs : Array Field} {f : Nat} {fi : Field} {i : TypeInfo} {x : AV} {a : Value} (hR : Rel g w σ) (hu : P.underlying s = some (.struct fs)) (hf : fs[f]? = some fi)
    (hi:P.info? fi.type=some i) (h0:i.size≠0) (hx:VR g w x a)
    (hK : match (generalizing := false) x with
      | .ref l o=>K (.ref l (o+fi.offset)) σ
      | .dY el y o=>K (.dY el y (o+fi.offset)) σ
      | .eJ el l m j o=>K (.eJ el l m j (o+fi.offset)) σ
      | _=>False):bC P (Instr.fieldAt s a f) g w σ K:=by
 have run:∀ A:Addr,(Instr.fieldAt s (.pointer (some A)) f).run P w = .ok (.pointer (some (A.add fi.offset))) w:=fun A=>by
  simp[Instr.fieldAt,aQ hu,hf,Instr.sureAddr,fieldPlace,cW hi,h0]
 cases hx<;>simp only at hK
 case ref l o h =>
  obtain⟨h1,A,rfl,h2⟩:=h;refine bC.pure hR (run A) (.ref _ _ _ ⟨h1,_,rfl,fun e=>?_⟩) hK;obtain⟨h3,h4⟩:=h2 e;rw[h4,add_plain];exact⟨by rw[h4]at h3;exact h3,rfl⟩
 case dY el y o b o' hi' ft hc h =>
  refine bC.pure hR (run _) ?_ hK;rw[add_plain,Nat.add_assoc];exact .dY el y _ b o' hi' ft hc h
 case eJ el l m j o h =>
  obtain⟨h1,hm,A,rfl,h2⟩:=h;refine bC.pure hR (run A) (.eJ _ _ _ _ _ _ ⟨h1,hm,_,rfl,fun e=>?_⟩) hK;obtain⟨h3,h4⟩:=h2 e;rw[h4,add_plain,Nat.add_assoc];exact⟨by rw[h4]at h3;exact h3,rfl⟩
def GH {t e : TypeId} {el : El} {A : Addr} {n cap : Nat} {k : IntKind} {i : Int} (hu : P.underlying t = some (.slice e)) (he : iP P e = some el) (h0 : 0 <= i) (h1 : i < n) :
    (Instr.indexAt t (.slice (some A) n cap) (.int k i)).run P w = .ok (.pointer (some (A.add (i.toNat*el.sz)))) w:=by
 obtain⟨fi,hi,_,hs,_⟩:=gH he;simp[Instr.indexAt,asIntOf,aQ hu,h0,h1,cW hi,hs]
def z7 {t e : TypeId} {el : El} {A : Addr} {n : Nat} {k : IntKind} {i : Int} (hu : P.underlying t = some (.array n e)) (he : iP P e = some el) (h0 : 0 <= i) (h1 : i < n) :
    (Instr.indexAt t (.pointer (some A)) (.int k i)).run P w = .ok (.pointer (some (A.add (i.toNat*el.sz)))) w:=by
 obtain⟨fi,hi,_,hs,_⟩:=gH he;simp[Instr.indexAt,asIntOf,aQ hu,h0,h1,cW hi,hs,Instr.sureAddr]
def MV {t e : TypeId} {el : El} {x y : AV} {a b : Value} (hR : Rel g w σ) (hu : P.underlying t = some (.slice e)) (he : iP P e = some el) (hx : VR g w x a) (hy : VR g w y b)
    (hK : match (generalizing := false) y with
      | .int _ k => match (generalizing := false) x with
        | .aO _ bq xs=>bq=el/\0<=k/\k<xs.length/\K (.dY el (xs.getD k.toNat .undef) 0) σ
        | .own bq l m o n => bq = el /\ 0 <= k /\ k < n /\ match σ[l]? with
          | some (.cz _ bj xs)=>bj=el/\m=xs.length/\K (.eJ el l m (o+k.toNat) 0) σ
          | _=>False
        | _=>False
      | _=>False):bC P (Instr.indexAt t a b) g w σ K:=by
 cases hy<;>simp only at hK
 case int k i =>
  cases hx<;>simp only at hK
  case iO=>exact absurd (Int.lt_of_le_of_lt hK.2.1 hK.2.2.1) (by simp)
  case aO f bq xs b' off cap hi hf hx' ft hc h =>
   obtain⟨rfl,h0,h1,h2⟩:=hK;have h3:i.toNat<xs.length:=by omega
   refine bC.pure hR (GH hu he h0 h1) ?_ h2;rw[add_plain];exact .dY bq _ 0 b' (off+i.toNat*bq.sz) hi (ft _ h3) (fun c ko=>by rw[Nat.add_assoc];exact hc _ c h3 ko) (fun c ko=>by rw[Nat.add_assoc];exact h _ c h3 ko)
  case own bq l m o n h =>
   obtain⟨rfl,h0,h1,h2⟩:=hK;obtain⟨q1,q2,A,cap,rfl,q3⟩:=h;split at h2
   ·rename_i bj xs hxs;obtain⟨rfl,rfl,h2⟩:=h2;obtain⟨o1,o2,o3⟩:=hR.ok l _ hxs;obtain⟨q4,q5,q6⟩:=q3 o1.symm;rcases o3 with⟨rfl,_,_⟩|⟨b,vs,b1,b2,b3,b4,b5⟩
    ·simp at q4;omega
    ·have q7:=q6 (by omega);rw[b1]at q7;simp only[aT]at q7;subst q7;refine bC.pure hR (GH hu he h0 h1) (.eJ _ _ _ _ _ _ ⟨q1,q2,_,rfl,fun e=>?_⟩) h2;rw[add_plain];exact⟨b1,by rw[bE,Nat.add_assoc];rfl⟩
   ·exact h2.elim
def MW {t e : TypeId} {el : El} {n : Nat} {x y : AV} {a b : Value} (hR : Rel g w σ) (hu : P.underlying t = some (.array n e)) (he : iP P e = some el) (hx : VR g w x a) (hy : VR g w y b)
    (hK : match (generalizing := false) y with
      | .int _ k => match (generalizing := false) x with
        | .ref l o=>0<=k/\k<n/\K (.ref l (o+k.toNat*el.sz)) σ
        | .dY bq y o=>0<=k/\k<n/\K (.dY bq y (o+k.toNat*el.sz)) σ
        | .eJ bq l m j o=>0<=k/\k<n/\K (.eJ bq l m j (o+k.toNat*el.sz)) σ
        | _=>False
      | _=>False):bC P (Instr.indexAt t a b) g w σ K:=by
 cases hy<;>simp only at hK
 case int k i =>
  cases hx<;>simp only at hK
  case ref l o h =>
   obtain⟨h0,h1,h2⟩:=hK;obtain⟨q1,A,rfl,q2⟩:=h;refine bC.pure hR (z7 hu he h0 h1) (.ref _ _ _ ⟨q1,_,rfl,fun e=>?_⟩) h2;obtain⟨h3,h4⟩:=q2 e;rw[h4,add_plain];exact⟨by rw[h4]at h3;exact h3,rfl⟩
  case dY bq x' o b' o' hi' ft hc h =>
   obtain⟨h0,h1,h2⟩:=hK;refine bC.pure hR (z7 hu he h0 h1) ?_ h2;rw[add_plain,Nat.add_assoc];exact .dY bq _ _ b' o' hi' ft hc h
  case eJ bq l m j o h =>
   obtain⟨h0,h1,h2⟩:=hK;obtain⟨q1,qm,A,rfl,q2⟩:=h;refine bC.pure hR (z7 hu he h0 h1) (.eJ _ _ _ _ _ _ ⟨q1,qm,_,rfl,fun e=>?_⟩) h2;obtain⟨h3,h4⟩:=q2 e;rw[h4,add_plain,Nat.add_assoc];exact⟨by rw[h4]at h3;exact h3,rfl⟩
def Sg {t e : TypeId} {el : El} {n : Nat} {x y : AV} {a b : Value} (hR : Rel g w σ) (hu : P.underlying t = some (.array n e)) (he : iP P e = some el) (hx : VR g w x a) (hy : VR g w y b)
    (hK : match (generalizing := false) x, y with
      | .agg cs, .int _ k => 0 <= k /\ k < n /\ (k.toNat * el.sz + el.sz <= cs.length) /\ (el.ag = false -> el.sz = 1) /\
        K (if el.ag then .agg ((cs.drop (k.toNat*el.sz)).take el.sz)else cs.getD (k.toNat*el.sz) .undef) σ
      | _,_=>False):bC P (Instr.index t a b) g w σ K:=by
 obtain⟨fi,hi,hA,hs,h1,_⟩:=gH he;cases hx<;>cases hy<;>simp only at hK
 case agg.int cs vs hl hsc h k i =>
  obtain⟨h0,h2,h3,_,h4⟩:=hK;obtain⟨v,r1,r2⟩:=MU (P:=P) (g:=g) (w:=w) (off:=i.toNat*el.sz) hA hi (fun e=>hs.trans (h1 e)) hl hsc h (by omega);rw[hs]at r2;exact bC.pure hR (by simp[Instr.index,asIntOf,aQ hu,h0,h2,cW hi,hs,r1]) r2 h4
def mQ{k:IntKind}{i:Int}{y:Nat}{code:BoundsCode}(h0:0<=i)(h1:i<=y): (Instr.sliceBound (.int k i) y code).run P w = .ok i.toNat w:=by
 simp[Instr.sliceBound,asIntOf,h0,h1]
def mR(g:aJ)(w:World)(x:Option AV)(v:Option Value): Prop :=
 match x,v with
 | none,none=>True
 | some a,some u=>VR g w a u
 | _,_=>False
def Uv {t : TypeId} {x : AV} {a : Value} {lo hi : Option AV} {vl vh : Option Value} (hR : Rel g w σ) (hu : P.underlying t = some .string) (hx : VR g w x a) (hl : mR g w lo vl) (hh : mR g w hi vh)
    (hK : match (generalizing := false) x with
      | .str s=>bound hi s.length s.length fun h=>bound lo 0 h fun l=>K (.str ((s.drop l).take (h-l))) σ
      | _=>False):bC P (Instr.sliceAt t a vl vh none) g w σ K:=by
 cases hx<;>simp only at hK
 case str s =>
  have key:∀ (l h:Nat),l<=h->h<=s.length->(⟨s.toArray⟩:ByteArray).extract l h=⟨((s.drop l).take (h-l)).toArray⟩:=fun l h h1 h2=>by
   apply ByteArray.ext;simp[ByteArray.data_extract]
  have hs:(⟨s.toArray⟩:ByteArray).size=s.length:=by simp[ByteArray.size]
  obtain⟨h,hb,kb⟩:∃ h:Nat,h<=s.length/\(match vh with|some v=>Instr.sliceBound v s.length .sliceAlen|none=>Pure.pure s.length:Sem Nat).run P w = .ok h w/\bound lo 0 h fun l=>K (.str ((s.drop l).take (h-l))) σ:=by
   cases hi with
   | none => cases vh with
     | none=>exact⟨s.length,Nat.le_refl _,rfl,hK⟩
     | some v=>exact hh.elim
   | some u => cases vh with
     | none=>exact hh.elim
     | some v =>
       have GI:VR g w u v:=hh;cases GI<;>simp only[bound]at hK
       case int k i=>exact⟨i.toNat,by omega,mQ hK.1 hK.2.1,hK.2.2⟩
  obtain⟨kb1,u9⟩:=kb
  obtain⟨l,lb,r1,r2⟩:∃ l:Nat,l<=h/\(match vl with|some v=>Instr.sliceBound v h .sliceB|none=>Pure.pure 0:Sem Nat).run P w = .ok l w/\K (.str ((s.drop l).take (h-l))) σ:=by
   cases lo with
   | none => cases vl with
     | none=>exact⟨0,bJ _,rfl,u9⟩
     | some v=>exact hl.elim
   | some u => cases vl with
     | none=>exact hl.elim
     | some v =>
       have hl':VR g w u v:=hl;cases hl'<;>simp only[bound]at u9
       case int k i=>exact⟨i.toNat,by omega,mQ u9.1 u9.2.1,u9.2.2⟩
  refine bC.pure hR (v:= .string ⟨((s.drop l).take (h-l)).toArray⟩) ?_ (.str _) r2;rw[<-key l h lb hb];cases vh<;>cases vl<;>simp_all[Instr.sliceAt,aQ hu,Instr.slice,Instr.sliceBounds]
end
end Go.AM
namespace Go.AM
section
variable {P:Program} {g:aJ} {w:World} {σ : ae} {K:AV->ae->Prop}
def wk {lo hi : Option AV} {vl vh : Option Value} {len cap : Nat} {K : Nat -> Nat -> Prop} (hl : mR g w lo vl) (hh : mR g w hi vh) (hlc : len <= cap)
    (hK:bound hi len len fun h=>bound lo 0 h fun l=>K l h) :
    ∃ l h:Nat,l<=h/\h<=len/\(Instr.sliceBounds true len cap vl vh none).run P w = .ok (l,h,cap) w/\K l h:=by
 obtain⟨h,hb,kb1,u9⟩:∃ h:Nat,h<=len/\(match vh with|some v=>Instr.sliceBound v cap .sliceAcap|none=>Pure.pure len:Sem Nat).run P w = .ok h w/\bound lo 0 h fun l=>K l h:=by
  cases hi with
  | none => cases vh with
    | none=>exact⟨len,Nat.le_refl _,rfl,hK⟩
    | some v=>exact hh.elim
  | some u => cases vh with
    | none=>exact hh.elim
    | some v =>
      have GI:VR g w u v:=hh;cases GI<;>simp only[bound]at hK
      case int k i=>exact⟨i.toNat,by omega,mQ hK.1 (by omega),hK.2.2⟩
 obtain⟨l,lb,r1,r2⟩:∃ l:Nat,l<=h/\(match vl with|some v=>Instr.sliceBound v h .sliceB|none=>Pure.pure 0:Sem Nat).run P w = .ok l w/\K l h:=by
  cases lo with
  | none => cases vl with
    | none=>exact⟨0,bJ _,rfl,u9⟩
    | some v=>exact hl.elim
  | some u => cases vl with
    | none=>exact hl.elim
    | some v =>
      have hl':VR g w u v:=hl;cases hl'<;>simp only[bound]at u9
      case int k i=>exact⟨i.toNat,by omega,mQ u9.1 u9.2.1,u9.2.2⟩
 refine⟨l,h,lb,hb,?_,r2⟩;cases vh<;>cases vl<;>simp_all[Instr.sliceBounds]
def Uw {t e : TypeId} {el : El} {x : AV} {a : Value} {lo hi : Option AV} {vl vh : Option Value} (hR : Rel g w σ) (hu : P.underlying t = some (.slice e)) (he : iP P e = some el)
    (hx:VR g w x a) (hl:mR g w lo vl) (hh:mR g w hi vh)
    (hK : match (generalizing := false) x with
      | .au=>bound hi 0 0 fun h=>bound lo 0 h fun _=>K .au σ
      | .aO _ bq xs=>bq=el/\bound hi xs.length xs.length fun h=>bound lo 0 h fun l=>K (.aO false el ((xs.drop l).take (h-l))) σ
      | .own bq l m o n => bq = el /\ match σ[l]? with
        | some (.cz _ bj xs)=>bj=el/\m=xs.length/\o+n<=m/\bound hi n n fun h=>bound lo 0 h fun k=>K (.own el l m (o+k) (h-k)) σ
        | _=>False
      | _=>False):bC P (Instr.sliceAt t a vl vh none) g w σ K:=by
 obtain⟨fi,hi',_,hs,_⟩:=gH he
 have run:∀ (A:Option Addr) (len cap l h:Nat),(Instr.sliceBounds true len cap vl vh none).run P w = .ok (l,h,cap) w ->
  (Instr.sliceAt t (.slice A len cap) vl vh none).run P w = .ok (.slice (if cap=l then A else A.map (·.add (l*el.sz))) (h-l) (cap-l)) w:=fun A len cap l h hb=>by
  simp only[Instr.sliceAt,Sem.run_bind,aQ hu,Result.andThen_ok,Instr.slice,hb,cW hi',hs,Sem.run_pure]
 cases hx<;>simp only at hK
 case au =>
  obtain⟨l,h,q1,q2,q3,q4⟩:=wk (P:=P) (cap:=0) hl hh (Nat.le_refl _) hK;have:h=0/\l=0:=by omega
  obtain⟨rfl,rfl⟩:=this;refine bC.pure hR (run none 0 0 0 0 q3) ?_ q4;simpa using VR.au
 case iO f bq b cap hf =>
  obtain⟨rfl,hK⟩:=hK;obtain⟨l,h,q1,q2,q3,q4⟩:=wk (P:=P) (cap:=cap) hl hh (bJ _) hK;have:h=0/\l=0:=by simp at q2;omega
  obtain⟨rfl,rfl⟩:=this;refine bC.pure hR (run b 0 cap 0 0 q3) ?_ q4;simpa using VR.iO false _ _ cap (by simp)
 case aO f bq xs b off cap y9 hf Bi ft hc h =>
  obtain⟨rfl,hK⟩:=hK;obtain⟨l,h',q1,q2,q3,q4⟩:=wk (P:=P) (cap:=cap) hl hh Bi hK;refine bC.pure hR (run _ _ _ _ _ q3) ?_ q4;by_cases e:h'=l
  ·subst e;simpa using VR.iO false _ _ (cap-h') (by simp)
  ·have hlt:l<h':=by omega
   rw[if_neg (by omega)];simp only[aT,add_plain];have hlen:((xs.drop l).take (h'-l)).length=h'-l:=by simp;omega
   have nx:∀ i,i<h'-l->((xs.drop l).take (h'-l)).getD i .undef=xs.getD (l+i) .undef:=fun i hi=>ia hi;have hoff:∀ i c,off+l*bq.sz+(i*bq.sz+c)=off+((l+i)*bq.sz+c):=fun i c=>by rw[bE];omega
   have:=VR.aO (g:=g) (w:=w) false bq ((xs.drop l).take (h'-l)) b (off+l*bq.sz) (cap-l) y9 (by simp) (by rw[hlen];omega)
    (fun i hi=>by rw[hlen]at hi;rw[nx i hi];exact ft _ (by omega))
    (fun i c hi gy=>by rw[hlen]at hi;rw[hoff];exact hc _ c (by omega) gy)
    (fun i c hi gy=>by rw[hlen]at hi;rw[nx i hi,hoff];exact h _ c (by omega) gy)
   rwa[hlen]at this
 case own bq l m o n h =>
  obtain⟨rfl,hK⟩:=hK;obtain⟨q1,q2,A,cap,rfl,q3⟩:=h;split at hK
  ·rename_i bj xs hxs;obtain⟨rfl,rfl,sr,hK⟩:=hK;obtain⟨o1,o2,o3⟩:=hR.ok l _ hxs;obtain⟨q4,q5,q6⟩:=q3 o1.symm
   have hcap:xs.length<=g.cap l:=by
    rcases o3 with⟨rfl,_,_⟩|⟨b,vs,b1,b2,b3,b4,b5⟩
    ·exact bJ _
    ·exact b4
   obtain⟨k,h',p1,p2,p3,p4⟩:=wk (P:=P) (cap:=cap) hl hh (by omega) hK;refine bC.pure hR (run _ _ _ _ _ p3) (.own _ _ _ _ _ _ ⟨q1,q2,_,_,rfl,fun e=>⟨by omega,by omega,fun hlt=>?_⟩⟩) p4;rw[if_neg (by omega),q6 (by omega)];cases g.base l with
   | none=>rfl
   | some b=>simp[add_plain,bE,Nat.add_assoc]
  ·exact hK.elim
def Pm {x : AV} {a : Value} {o : Oper} {y : Operand} {ac : Act} (ho : o.op = .nilCheck y) (ha : ac.eval y = a) (hR : Rel g w σ) (hx : VR g w x a)
    (hK : match (generalizing := false) x with
      | .ref .. | .dY .. | .eJ .. | .kP .. | .fn (.func _) _ _ | .qS _=>K x σ
      | _=>False) :
    ∃ v w' g' av σ',(execOp ac.eval o).run P w = .ok (.value v) w'/\Rel g' w' σ'/\fC σ g w σ' g' w'/\VR g' w' av v/\K av σ':=by
 have fin:(execOp ac.eval o).run P w = .ok (.value a) w->K x σ-> ∃ v w' g' av σ',(execOp ac.eval o).run P w = .ok (.value v) w'/\Rel g' w' σ'/\fC σ g w σ' g' w'/\VR g' w' av v/\K av σ' :=
  fun h hk=>⟨a,w,g,x,σ,h,hR,.refl _ _ _,hx,hk⟩
 cases x<;>(try exact False.elim hK)
 case ref l off =>
  refine fin ?_ hK;cases hx with|ref _ _ _ h=>obtain⟨_,A,rfl,_⟩:=h;simp[execOp,ho,ha]
 case dY el x off =>
  refine fin ?_ hK;cases hx;simp[execOp,ho,ha]
 case eJ el l m i off =>
  refine fin ?_ hK;cases hx with|eJ _ _ _ _ _ _ h=>obtain⟨_,_,A,rfl,_⟩:=h;simp[execOp,ho,ha]
 case kP t v =>
  refine fin ?_ hK;cases hx;simp[execOp,ho,ha]
 case qS l =>
  refine fin ?_ hK;cases hx with|qS _ _ h=>obtain⟨_,A,rfl,_⟩:=h;simp[execOp,ho,ha]
 case fn f first cap =>
  cases f<;>(try exact False.elim hK)
  case func n =>
   refine fin ?_ hK;cases hx;simp[execOp,ho,ha]
def Pn {t : TypeId} {d : TypeDesc} {x : AV} {a : Value} (hR : Rel g w σ) (hu : P.underlying t = some d) (hd : ∀ ms, d ≠ .interface ms) (hx : VR g w x a) (hK : K (.kP t x) σ) :
    bC P (Instr.makeInterface t a) g w σ K:=by
 refine bC.pure hR ?_ (.kP t x a hx) hK;cases d<;>first|(simp[Instr.makeInterface,aQ hu];done)|exact absurd rfl (hd _)
def Sh {ats : Array TypeId} {t : TypeId} {r : TypeId} {x : AV} {a : Value} (hR : Rel g w σ) (ht : ats[0]? = some t) (hu : P.underlying t = some .string) (hx : VR g w x a)
    (hK : match (generalizing := false) x with
      | .str s=>K (.int .i64 s.length) σ
      | _=>False):bC P (Builtin.len_ ats r #[a]) g w σ K:=by
 cases hx<;>simp only at hK
 case str s=>exact bC.pure hR (v:= .int .i64 s.length) (by
  have hs:(⟨s.toArray⟩:ByteArray).size=s.length:=List.size_toArray;unfold Builtin.len_;simp[ht,aQ hu,goInt,hs]) (.int _ _) hK
def Si {ats : Array TypeId} {t e : TypeId} {r : TypeId} {x : AV} {a : Value} (hR : Rel g w σ) (ht : ats[0]? = some t) (hu : P.underlying t = some (.slice e)) (hx : VR g w x a)
    (hK : match (generalizing := false) x with
      | .au=>K (.int .i64 0) σ
      | .aO _ _ xs=>K (.int .i64 xs.length) σ
      | .own _ _ _ _ n=>K (.int .i64 n) σ
      | _=>False):bC P (Builtin.len_ ats r #[a]) g w σ K:=by
 have hsl:∀ A n c,a = .slice A n c->K (.int .i64 n) σ->bC P (Builtin.len_ ats r #[a]) g w σ K:=fun A n c ha hk=>by
  subst ha;exact bC.pure hR (v:= .int .i64 n) (by unfold Builtin.len_;simp[ht,aQ hu,goInt]) (.int _ _) hk
 cases hx<;>simp only at hK
 case au=>exact hsl _ _ _ rfl hK
 case iO=>exact hsl _ _ _ rfl hK
 case aO=>exact hsl _ _ _ rfl hK
 case own h=>obtain⟨_,_,A,cap,rfl,_⟩:=h;exact hsl _ _ _ rfl hK
def MX (op : Bool) : ∀ (xs : List AV) (vs : List Value) (x : AV) (v : Value), VR g w x v -> xs.length = vs.length -> (∀ i, i < xs.length -> VR g w (xs.getD i .undef) (vs.getD i Go.undef)) ->
    rE op x xs (fun v=>K v σ)-> ∃ av u,(vs.foldlM (if op then Builtin.min2 else Builtin.max2) v).run P w = .ok u w/\VR g w av u/\K av σ:=by
 intro xs
 induction xs with
 | nil =>
   intro vs x v hx hl _ hK;cases vs with
   | nil=>exact⟨x,v,rfl,hx,hK⟩
   | cons _ _=>cases hl
 | cons y ys ih =>
   intro vs x v hx hl h hK;cases vs with
   | nil=>cases hl
   | cons u us =>
     have hy:VR g w y u:=by simpa using h 0 (by simp)
     simp only[rE]at hK;cases hx<;>simp only[BW]at hK;cases hy<;>simp only at hK;rename_i k a k' b
     obtain⟨av,u',r1,r2,r3⟩:=ih us _ (.int k (if op then(if b<a then b else a)else (if b>a then b else a))) (.int _ _) (by simpa using hl)
      (fun i hi=>by simpa using h (i+1) (by simpa using hi)) hK
     refine⟨av,u',?_,r2,r3⟩;cases op<;>simpa[List.foldlM_cons,Builtin.min2,Builtin.max2]using r1
def Ux {ats : Array TypeId} {r : TypeId} {x : AV} {xs : List AV} {v : Value} {vs : List Value} (hR : Rel g w σ) (hx : VR g w x v) (hl : xs.length = vs.length)
    (h:∀ i,i<xs.length->VR g w (xs.getD i .undef) (vs.getD i Go.undef)) (hK:rE true x xs fun v=>K v σ):bC P (Builtin.min_ ats r (v::vs).toArray) g w σ K:=by
 obtain⟨av,u,r1,r2,r3⟩:=MX (P:=P) true xs vs x v hx hl h hK;exact bC.pure hR (by simpa[Builtin.min_]using r1) r2 r3
def Uy {ats : Array TypeId} {r : TypeId} {x : AV} {xs : List AV} {v : Value} {vs : List Value} (hR : Rel g w σ) (hx : VR g w x v) (hl : xs.length = vs.length)
    (h:∀ i,i<xs.length->VR g w (xs.getD i .undef) (vs.getD i Go.undef)) (hK:rE false x xs fun v=>K v σ):bC P (Builtin.max_ ats r (v::vs).toArray) g w σ K:=by
 obtain⟨av,u,r1,r2,r3⟩:=MX (P:=P) false xs vs x v hx hl h hK;exact bC.pure hR (by simpa[Builtin.max_]using r1) r2 r3
end
