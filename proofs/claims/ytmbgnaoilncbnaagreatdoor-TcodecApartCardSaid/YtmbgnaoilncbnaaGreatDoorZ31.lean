/- Part of a proof: see Root. -/
import Derived.Test.YtmbgnaoilncbnaaGreatDoorZ30
set_option linter.unnecessarySimpa false
set_option linter.unusedSimpArgs false
set_option linter.unusedVariables false
namespace Go.Proofs.YtmbgnaoilncbnaaGreatDoor
open Go.AM
set_option maxRecDepth 4000
theorem Oa{α : Type}[Inhabited α]{p : α→Bool}{l:List α}(h:∀ k,k<l.length→p (l.getD k default)=true): l.all p=true:=by
 rw[List.all_eq_true]
 intro x hx
 obtain⟨i,hi,rfl⟩:=List.getElem_of_mem hx
 have:=h i hi
 rwa[List.getD_eq_getElem?_getD,List.getElem?_eq_getElem hi,Option.getD_some]at this
theorem Ob{α : Type}[Inhabited α]{p : α→Bool}{l:List α}{i:Nat}(hi:i<l.length)(h:p (l.getD i default)=false): l.all p=false:=by
 cases hq:l.all p with
 | false=>rfl
 | true=>rw[List.all_eq_true]at hq;rw[hq _ (aY hi)]at h;cases h
def Oc(n:Nat)(s:aH): Bool:=decide (s.length≤n)
def H8(l:List aH): Bool:=decide (l.length≤10) && l.all (Oc 300)
theorem JN(l:List aH): aq Tryz.prog sk [dS l] (.bool (H8 l)):=by
 obtain⟨E,hE⟩:∃ E,H8 l=E:=⟨_,rfl⟩
 rw[hE]
 unfold H8 at hE
 simp only[dS]
 refine aq.of_nil (Ny (by simp) ?_) (by simp)
 unfold E8 aM
 intro Q aC aD aE
 repeat' first|refine aB ?_|refine aA (fun hw=>?_) (fun hw=>?_)<;>try omega|fail
 ·refine aL ?_ rfl;rw[← hE,decide_eq_false (by omega),Bool.false_and]
 have h10:l.length≤10:=by omega
 rw[decide_eq_true h10,Bool.true_and]at hE
 with_reducible refine a_ [2,3,7,8,9,10,11,12,13,14,15,16,17,18] (fun i:Nat=>[(3,I i)]) (fun _=>[]) (fun i=>i≤l.length∧ ∀ k,k<i→Oc 300 (l.getD k default)=true) (fun i=>l.length-i) (0) ?_ ?_ ?_ ?_
 ·simp
 ·rfl
 ·exact at_
 rintro i r ⟨h1,h2⟩
 by_cases hi:i<l.length
 ·have hne:=fun h=>Ob (p:=Oc 300) hi h
  have cu:=fun he=>aW (q:=fun k=>Oc 300 (l.getD k default)=true) h2 (i:=i) he
  have hS:Oc 300 (l.getD i default)=decide ((l.getD i default).length≤300):=rfl
  rw[hS]at hne cu
  repeat' first|refine aB ?_|refine aA (fun hw=>?_) (fun hw=>?_)<;>try omega|fail
  all_goals first
   | exact aZ
   |(refine aL ?_ rfl;rw[← hE,hne (decide_eq_false (by omega))])
   | (refine ⟨i + 1, ?_, ?_, by first | rfl | (simp [go_sem]; done), bG, at_⟩ <;> (try dsimp only)
      ·exact⟨by omega,cu (decide_eq_true (by omega))⟩
      ·omega)
 ·repeat' first|refine aB ?_|refine aA (fun hw=>?_) (fun hw=>?_)<;>try omega|fail
  refine aL ?_ rfl;rw[← hE,Oa (fun k hk=>h2 k (by omega))]
def ID(c:bV): Bool:=decide (c.name.length≤300)
def H9(l:List bV): Bool:=decide (l.length≤12) && l.all ID
theorem X7(l:List bV): aq Tryz.prog sG [bq l] (.bool (H9 l)):=by
 obtain⟨E,hE⟩:∃ E,H9 l=E:=⟨_,rfl⟩
 rw[hE]
 unfold H9 at hE
 simp only[bq]
 refine aq.of_nil (I0 (by simp) ?_) (by simp)
 unfold z_ aM
 intro Q aC aD aE
 repeat' first|refine aB ?_|refine aA (fun hw=>?_) (fun hw=>?_)<;>try omega|fail
 ·refine aL ?_ rfl;rw[← hE,decide_eq_false (by omega),Bool.false_and]
 have h10:l.length≤12:=by omega
 rw[decide_eq_true h10,Bool.true_and]at hE
 with_reducible refine a_ [2,3,7,8,9,10,11,12,13,14,15,16,17,18,19] (fun i:Nat=>[(3,I i)]) (fun _=>[]) (fun i=>i≤l.length∧ ∀ k,k<i→ID (l.getD k default)=true) (fun i=>l.length-i) (0) ?_ ?_ ?_ ?_
 ·simp
 ·rfl
 ·exact at_
 rintro i r ⟨h1,h2⟩
 by_cases hi:i<l.length
 ·have hne:=fun h=>Ob (p:=ID) hi h
  have cu:=fun he=>aW (q:=fun k=>ID (l.getD k default)=true) h2 (i:=i) he
  have hS:ID (l.getD i default)=decide ((l.getD i default).name.length≤300):=rfl
  rw[hS]at hne cu
  repeat' first|refine aB ?_|refine aA (fun hw=>?_) (fun hw=>?_)<;>try omega|fail
  all_goals first
   | exact aZ
   |(refine aL ?_ rfl;rw[← hE,hne (decide_eq_false (by omega))])
   | (refine ⟨i + 1, ?_, ?_, by first | rfl | (simp [go_sem]; done), bG, at_⟩ <;> (try dsimp only)
      ·exact⟨by omega,cu (decide_eq_true (by omega))⟩
      ·omega)
 ·repeat' first|refine aB ?_|refine aA (fun hw=>?_) (fun hw=>?_)<;>try omega|fail
  refine aL ?_ rfl;rw[← hE,Oa (fun k hk=>h2 k (by omega))]
def KG(v:dy): Bool:=decide (v.s.length≤300)
def Od(c:bV): Bool:=decide (c.order.length≤12) && c.order.all KG
def EB(l:List bV): Bool:=H9 l && l.all Od
theorem JO(l:List bV): aq Tryz.prog sj [bq l] (.bool (EB l)):=by
 have cf:=X7 l
 obtain⟨E,hE⟩:∃ E,EB l=E:=⟨_,rfl⟩
 rw[hE]
 unfold EB at hE
 have h12:H9 l=true→l.length≤12:=fun h=>by simp only[H9,Bool.and_eq_true,decide_eq_true_eq]at h;exact h.1
 simp only[bq]at cf ⊢
 generalize H9 l=fe at *
 refine aq.of_nil (Nx (by simp) ?_) (by simp)
 unfold E7 aM
 intro Q aC aD aE
 cases fe with
 | false =>
   repeat' first|refine aB ?_|refine aF cf ?_|refine aA (fun hw=>?_) (fun hw=>?_)<;>try omega|fail
   all_goals first
    | exact aZ
    |(refine aL ?_ rfl;rw[← hE,Bool.false_and])
 | true =>
   rw[Bool.true_and]at hE
   have h12:=h12 rfl
   repeat' first|refine aB ?_|refine aF cf ?_|refine aA (fun hw=>?_) (fun hw=>?_)<;>try omega|fail
   all_goals first|exact aZ|skip
   with_reducible refine a_ [2,3,4,8,9,10,11,12,13,14,15,16,17,18,19,20,21,22,23,24,25,26,27,28,29,30,31,32,33,34,35,36,37,38,39,40,41] (fun i:Nat=>[(3,I i)]) (fun _=>[]) (fun i=>i≤l.length∧ ∀ k,k<i→Od (l.getD k default)=true) (fun i=>l.length-i) (0) ?_ ?_ ?_ ?_
   ·simp
   ·rfl
   ·exact at_
   rintro i r ⟨h1,h2⟩
   by_cases hi:i<l.length
   ·have hne:=fun h=>Ob (p:=Od) hi h
    have cu:=fun he=>aW (q:=fun k=>Od (l.getD k default)=true) h2 (i:=i) he
    have hS:Od (l.getD i default)=(decide ((l.getD i default).order.length≤12) && (l.getD i default).order.all KG):=rfl
    rw[hS]at hne cu
    obtain⟨c,hc⟩:∃ c,l.getD i default=c:=⟨_,rfl⟩
    rw[hc]at hne cu
    clear hS
    repeat' first|simp (disch:=omega) only[go_sem,aC,aD,aE,aj,au,ak,Nat.reduceAdd,Nat.reduceBEq,↓reduceIte,hc]|refine aB ?_|refine aA (fun hw=>?_) (fun hw=>?_)<;>try omega|fail
    ·refine aL ?_ rfl;rw[← hE,hne (by rw[decide_eq_false (by omega),Bool.false_and])]
    have ho:c.order.length≤12:=by omega
    rw[decide_eq_true ho,Bool.true_and]at hne cu
    with_reducible refine a_ [2,4,21,22,23,24,25,26,27,28,29,30,31,32,33,34,35,36,37,38,39,40,41] (fun j:Nat=>[(4,I j)]) (fun _=>[]) (fun j=>j≤c.order.length∧ ∀ k,k<j→KG (c.order.getD k default)=true) (fun j=>c.order.length-j) (0) ?_ ?_ ?_ ?_
    ·simp
    ·rfl
    ·exact at_
    rintro j r2 ⟨g1,g2⟩
    by_cases hj:j<c.order.length
    ·have H_:=fun h=>Ob (p:=KG) hj h
     have iA:=fun he=>aW (q:=fun k=>KG (c.order.getD k default)=true) g2 (i:=j) he
     have hS:KG (c.order.getD j default)=decide ((c.order.getD j default).s.length≤300):=rfl
     rw[hS]at H_ iA
     repeat' first|simp (disch:=omega) only[go_sem,aC,aD,aE,aj,au,ak,Nat.reduceAdd,Nat.reduceBEq,↓reduceIte,hc]|refine aB ?_|refine aA (fun hw=>?_) (fun hw=>?_)<;>try omega|fail
     all_goals first
      | exact aZ
      |(refine aL ?_ rfl;rw[← hE,hne (H_ (decide_eq_false (by omega)))])
      | (refine ⟨j + 1, ?_, ?_, by first | rfl | (simp [go_sem]; done), bG, at_⟩ <;> (try dsimp only)
         ·exact⟨by omega,iA (decide_eq_true (by omega))⟩
         ·omega)
    ·repeat' first|simp (disch:=omega) only[go_sem,aC,aD,aE,aj,au,ak,Nat.reduceAdd,Nat.reduceBEq,↓reduceIte,hc]|refine aB ?_|refine aA (fun hw=>?_) (fun hw=>?_)<;>try omega|fail
     refine⟨i+1,?_,?_,by first|rfl|(simp[go_sem];done),bG,at_⟩<;>(try dsimp only)
     ·exact⟨by omega,cu (Oa (fun k hk=>g2 k (by omega)))⟩
     ·omega
   ·repeat' first|refine aB ?_|refine aA (fun hw=>?_) (fun hw=>?_)<;>try omega|fail
    refine aL ?_ rfl;rw[← hE,Oa (fun k hk=>h2 k (by omega))]
def Oe(r:cK): Bool:=H8 r.cells && H8 r.outs
def oa(t:Table): Bool:=decide (t.name.length≤300) && decide (t.rules.length≤26) && EB t.ins && EB t.outs && t.rules.all Oe
theorem wJ(t:Table): aq Tryz.prog jL [bI t] (.bool (oa t)):=by
 have ci:=JO t.ins
 have co:=JO t.outs
 obtain⟨E,hE⟩:∃ E,oa t=E:=⟨_,rfl⟩
 rw[hE]
 unfold oa at hE
 simp only[bI,dc,bq,cQ]at ci co ⊢
 generalize EB t.ins=oi at *
 generalize EB t.outs=oo at *
 refine aq.of_nil (J7 (by simp) ?_) (by simp)
 unfold Bf aM
 intro Q aC aD aE
 by_cases hb:(decide (t.name.length≤300) && decide (t.rules.length≤26) && oi && oo)=true
 case neg =>
  simp only[Bool.not_eq_true]at hb
  rw[hb,Bool.false_and]at hE
  cases oi<;>cases oo
  all_goals
   repeat' first|refine aB ?_|refine aF ci ?_|refine aF co ?_|refine aA (fun hw=>?_) (fun hw=>?_)<;>try omega|fail
  all_goals first
   | exact aZ
   |(refine aL ?_ rfl;rw[← hE])
   |(exfalso;simp at hb;omega)
 rw[hb,Bool.true_and]at hE
 simp only[Bool.and_eq_true,decide_eq_true_eq]at hb
 obtain⟨⟨⟨b1,b2⟩,rfl⟩,rfl⟩:=hb
 repeat' first|refine aB ?_|refine aF ci ?_|refine aF co ?_|refine aA (fun hw=>?_) (fun hw=>?_)<;>try omega|fail
 all_goals first|exact aZ|skip
 with_reducible refine a_ [2,3,26,27,28,29,30,31,32,33,34,35,36,37,38,39,40,41,42,43,44,45,46,47,48,49,50] (fun i:Nat=>[(3,I i)]) (fun _=>[.cells [.str t.name,.aG false EC (t.ins.map bp),.aG false EC (t.outs.map bp),I t.bl,I t.agg,.aG false ER (t.rules.map cj)]]) (fun i=>i≤t.rules.length∧ ∀ k,k<i→Oe (t.rules.getD k default)=true) (fun i=>t.rules.length-i) (0) ?_ ?_ ?_ ?_
 ·simp
 ·rfl
 ·exact at_
 rintro i r ⟨h1,h2⟩
 by_cases hi:i<t.rules.length
 ·have hne:=fun h=>Ob (p:=Oe) hi h
  have cu:=fun he=>aW (q:=fun k=>Oe (t.rules.getD k default)=true) h2 (i:=i) he
  have hS:Oe (t.rules.getD i default)=(H8 (t.rules.getD i default).cells && H8 (t.rules.getD i default).outs):=rfl
  have c1:=JN (t.rules.getD i default).cells
  have c2:=JN (t.rules.getD i default).outs
  rw[hS]at hne cu
  simp only[dS]at c1 c2
  generalize H8 (t.rules.getD i default).cells=u1 at *
  generalize H8 (t.rules.getD i default).outs=u2 at *
  cases u1<;>cases u2
  all_goals
   repeat' first|refine aB ?_|refine aF c1 ?_|refine aF c2 ?_|refine aA (fun hw=>?_) (fun hw=>?_)<;>try omega|fail
  all_goals first
   | exact aZ
   |(refine aL ?_ rfl;rw[← hE,hne rfl])
   | (refine ⟨i + 1, ?_, ?_, by first | rfl | (simp [go_sem]; done), bG, at_⟩ <;> (try dsimp only)
      ·exact⟨by omega,cu rfl⟩
      ·omega)
 ·repeat' first|refine aB ?_|refine aA (fun hw=>?_) (fun hw=>?_)<;>try omega|fail
  refine aL ?_ rfl;rw[← hE,Oa (fun k hk=>h2 k (by omega))]
end Go.Proofs.YtmbgnaoilncbnaaGreatDoor
namespace Go.Proofs.YtmbgnaoilncbnaaGreatDoor
open Go.AM
set_option maxRecDepth 8000
def Wq(v:dy): Prop:= -9223372036854775808≤v.n∧v.n≤9223372036854775807
def Wr(l:List bV): Prop:= ∀ c ∈ l,∀ v ∈ c.order,Wq v
def zB(t:Table): Prop:=Wr t.ins∧Wr t.outs
theorem UZ{l:List bV}(h:EB l=true)(hr:Wr l): l.length≤12∧ ∀ c ∈ l,qO c:=by
 simp only[EB,H9,Bool.and_eq_true,decide_eq_true_eq,List.all_eq_true]at h
 obtain⟨⟨h1,h2⟩,h3⟩:=h
 refine⟨h1,fun c hc=>?_⟩
 have a:=h2 c hc
 have b:=h3 c hc
 simp only[ID,Od,Bool.and_eq_true,decide_eq_true_eq,List.all_eq_true]at a b
 refine⟨by omega,by omega,fun v hv=>⟨hr c hc v hv,?_⟩⟩
 have:=b.2 v hv
 simp only[KG,decide_eq_true_eq]at this
 omega
theorem Sw{l:List aH}(h:H8 l=true): l.length≤10∧ ∀ s ∈ l,s.length≤300:=by
 simp only[H8,Bool.and_eq_true,decide_eq_true_eq,List.all_eq_true]at h
 exact⟨h.1,fun s hs=>by have:=h.2 s hs;simpa[Oc]using this⟩
theorem AK{t:Table}(h:oa t=true)(hr:zB t): gU t:=by
 simp only[oa,Bool.and_eq_true,decide_eq_true_eq,List.all_eq_true]at h
 obtain⟨⟨⟨⟨h1,h2⟩,h3⟩,h4⟩,h5⟩:=h
 have ci:=UZ h3 hr.1
 have co:=UZ h4 hr.2
 refine⟨by omega,⟨by omega,ci.2⟩,⟨by omega,co.2⟩,by omega,fun r Xk=>?_⟩
 have:=h5 r Xk
 simp only[Oe,Bool.and_eq_true]at this
 have a:=Sw this.1
 have b:=Sw this.2
 exact⟨⟨by omega,fun s hs=>by have:=a.2 s hs;omega⟩,by omega,fun s hs=>by have:=b.2 s hs;omega⟩
end Go.Proofs.YtmbgnaoilncbnaaGreatDoor
namespace Go.Proofs.YtmbgnaoilncbnaaGreatDoor
open Go.AM
set_option maxRecDepth 4000
theorem AL{α : Type}{p : α→ α→Bool}(l:List α)(h:∀ x ∈ l,p x x=true): fh p l l=true:=by
 induction l with
 | nil=>rfl
 | cons x l ih=>simp only[fh,h x (by simp),Bool.true_and];exact ih (fun y hy=>h y (List.mem_cons_of_mem _ hy))
theorem mZ(t:Table): ik t t=true:=by
 have hc:∀ l:List bV,fh fc l l=true:=fun l=>AL l (fun c _=>by
  unfold fc;rw[AL c.order (fun v _=>by simp)];simp)
 have hr:∀ l:List cK,fh hU l l=true:=fun l=>AL l (fun r _=>by
  unfold hU;rw[AL r.cells (fun v _=>by simp),AL r.outs (fun v _=>by simp)];rfl)
 unfold ik
 rw[hc,hc,hr];simp
theorem U0{l:List bV}(h:l.length≤2 ^ 30∧ ∀ c ∈ l,qO c): HZ l:=⟨by omega,fun c hc=>(h.2 c hc).2.1⟩
theorem m_{t:Table}(h:gU t): EA t:=⟨U0 h.2.1,U0 h.2.2.1,by have:=h.2.2.2.1;omega,fun r hr=>by
 have:=h.2.2.2.2 r hr;exact⟨by omega,by omega⟩⟩
theorem IE: EA fJ:=⟨⟨by decide,fun c hc=>(by cases hc)⟩,⟨by decide,fun c hc=>(by cases hc)⟩,by decide,fun c hc=>(by cases hc)⟩
theorem ED{t:Table}(h:gU t): EA (bZ t).1:=by
 by_cases he:(cI t).2.2.2=0
 ·unfold bZ
  rw[if_neg (by omega)]
  split
  ·exact IE
  ·obtain⟨a,b,c,d⟩:=m_ h
   obtain⟨h1,h2⟩:=wH h he
   refine⟨a,b,?_,fun r hr=>?_⟩
   ·dsimp only;rw[jF];omega
   ·obtain⟨k,_,rfl⟩:=List.mem_map.1 hr
    have hk:=h2 k
    unfold iT
    rw[H6]
    refine⟨?_,?_⟩
    ·dsimp only;rw[nQ];have:=hk.1.1;omega
    ·dsimp only;rw[qf];have:=hk.2.1;omega
 ·rw[rV he];exact IE
end Go.Proofs.YtmbgnaoilncbnaaGreatDoor
namespace Go.AM
variable {P:Program}
theorem View.live{σ σ':ai}(hs:∀ (l:Nat) o,σ[l]? = some o→o.live=true→σ'[l]? = some o){a b:AV}(h:View σ a b): View σ' a b:=by
 induction h with
 | refl a h=>exact .refl a h
 | ae el=>exact .ae el
 | weak f el xs h=>exact .weak f el xs h
 | aG f el xs ys hl _ ih=>exact .aG f el xs ys hl ih
 | own T el l lo n xs ys hl hy hn _ ih=>exact .own T el l lo n xs ys (hs _ _ hl rfl) hy hn ih
 | agg cs ds hl _ ih=>exact .agg cs ds hl ih
 | bJ cs ds hl _ ih=>exact .bJ cs ds hl ih
 | cell l v hl h hp=>exact .cell l v (hs _ _ hl rfl) h hp
 | cells l n cs hl hn hp=>exact .cells l n cs (hs _ _ hl rfl) hn hp
 | fn f az bs cs ds hl _ hl' _ ih F6=>exact .fn f az bs cs ds hl ih hl' F6
def Ws(q:Nat)(o:aR): ai:=List.replicate q .dead++[o]
theorem X8{q:Nat}{o:aR}(l:Nat)(o':aR)(h:(Ws q o)[l]? = some o')(hl:o'.live=true): l=q∧o'=o:=by
 unfold Ws at h
 by_cases h1:l<q
 ·rw[List.getElem?_append_left (by simpa using h1)]at h
  simp[List.getElem?_replicate,h1]at h
  subst h;cases hl
 ·rw[List.getElem?_append_right (by simpa using Nat.le_of_not_lt h1)]at h
  simp only[List.length_replicate]at h
  have:l-q=0:=by
   apply Nat.eq_zero_of_not_pos
   intro hp
   rw[List.getElem?_eq_none (by simp;omega)]at h;cases h
  rw[this]at h
  simp at h
  exact⟨by omega,h.symm⟩
theorem aq.freeze{f:FuncId}{az bz:List AV}{r:AV}{σ : ai}{q:Nat}{o:aR}(h:aq P f bz r)(hq : σ[q]? = some o)(ho:o.live=true)(hv:aQ (Ws q o) az bz)(hr:r.cF=true):
 ef P f az σ fun out s=>out = .ret r∧s = σ.set q .dead:=by
 refine⟨(h []).1,fun g w vs hR hlen hvs=>?_⟩
 have hqn:q<g.n:=by rw[← hR.len];exact(List.getElem?_eq_some_iff.1 hq).1
 have Sx:Live σ q:=⟨o,hq,ho⟩
 let I:Nat→Prop:=fun b=>g.ei b∨g.base q=some b
 have hlt:∀ b,I b→b<w.heap.size:=fun b hb=>by
  rcases hb with hb|hb
  ·exact hR.lt b hb
  ·exact hR.gD Sx hb
 let Po:ai:=σ.zipIdx.map fun x=>if x.2=q then x.1 else .dead
 have Sy:∀ (l:Nat) o',Po[l]? = some o'→o'.live=true→l=q∧σ[l]? = some o':=fun l o' hl hlv=>by
  simp only[Po,List.getElem?_map,List.getElem?_zipIdx,Option.map_map]at hl
  obtain⟨x,hx,nS⟩:=Option.map_eq_some_iff.1 hl
  simp at nS
  split at nS
  ·rename_i e;subst nS;exact⟨e,hx⟩
  ·subst nS;cases hlv
 have acK:Po.length = σ.length:=by simp[Po]
 have aeb:Po[q]? = some o:=by
  simp only[Po,List.getElem?_map,List.getElem?_zipIdx,Option.map_map]
  rw[hq];simp
 have hRq:Rel g w Po:=by
  refine⟨by rw[acK];exact hR.len,hR.lt,fun l o' ho'=>?_,fun l l' b hl hl'=>?_,fun l b hl=>?_,hR.jS⟩
  ·by_cases hlv:o'.live=true
   ·exact hR.ok l o' (Sy l o' ho' hlv).2
   ·cases o'<;>simp[aR.live]at hlv
    trivial
  ·obtain⟨o1,h1,h2⟩:=hl
   obtain⟨o2,h3,h4⟩:=hl'
   exact hR.inj l l' b ⟨o1,(Sy l o1 h1 h2).2,h2⟩ ⟨o2,(Sy l' o2 h3 h4).2,h4⟩
  ·obtain⟨o1,h1,h2⟩:=hl
   exact hR.uU l b ⟨o1,(Sy l o1 h1 h2).2,h2⟩
 have Lt:∀ {x y:AV},View (Ws q o) x y→View Po x y:=fun hxy=>hxy.live (fun l o' hl hlv=>by
  obtain⟨rfl,rfl⟩:=X8 l o' hl hlv
  exact aeb)
 refine((h []).2 (aK.bare I) w vs (Rel.bare hlt ⟨fun b hb=> .inl (hR.jS.1 b hb),hR.jS.2⟩) (hv.1 ▸ hlen) (fun i hi=>?_)).mono ?_
 ·refine(Lt (hv.2 i (hv.1 ▸ hi))).vr (g':=aK.bare I) hRq (fun b hb=> .inl hb) (fun b hb=>?_) (hvs i (hv.1 ▸ hi))
  obtain⟨l,⟨o1,h1,h2⟩,hb⟩:=hb
  obtain⟨rfl,_⟩:=Sy l o1 h1 h2
  exact .inr hb
 rintro e w' ⟨out,g',σ',hR',hE,hO,rfl,rfl⟩
 have hfr:∀ b,b<w.heap.size→w'.heap[b]? = w.heap[b]?:=fun b hb=>hE.frame b hb gw
 let g2:aK:= { g with ei:=fun b=>I b∨(w.heap.size≤b∧b<w'.heap.size) }
 have hm:jy g w g2 w':=⟨fun b hb=>⟨.inl (.inl hb),hfr b (hR.lt b hb)⟩,Nat.le_refl _,fun _ _=>⟨Nat.le_refl _,fun _=>⟨rfl,rfl⟩⟩⟩
 have sF:∀ (l:Nat) o',(σ.set q .dead)[l]? = some o'→o'.live=true→l≠q∧σ[l]? = some o':=fun l o' hl hlv=>by
  by_cases e:l=q
  ·subst e
   rw[List.getElem?_set_self (List.getElem?_eq_some_iff.1 hq).1]at hl
   cases hl;cases hlv
  ·rw[List.getElem?_set_ne (Ne.symm e)]at hl
   exact⟨e,hl⟩
 have Lu:Rel g2 w' (σ.set q .dead):=by
  refine⟨by simp[g2,hR.len],fun b hb=>?_,fun l o' ho'=>?_,fun l l' b hl hl'=>?_,fun l b hl hb hi=>?_,hR.jS.mono hm.ei⟩
  ·rcases hb with hb|hb
   ·exact Nat.lt_of_lt_of_le (hlt b hb) hE.size
   ·exact hb.2
  ·by_cases hlv:o'.live=true
   ·obtain⟨_,h2⟩:=sF l o' ho' hlv
    have hl:l<g.n:=by rw[← hR.len];exact(List.getElem?_eq_some_iff.1 h2).1
    exact(hR.ok l o' h2).step hm hl rfl (fun b hb=>hfr b (hR.gD ⟨o',h2,hlv⟩ hb))
   ·cases o'<;>simp[aR.live]at hlv
    trivial
  ·obtain⟨o1,h1,h2⟩:=hl
   obtain⟨o2,h3,h4⟩:=hl'
   exact hR.inj l l' b ⟨o1,(sF l o1 h1 h2).2,h2⟩ ⟨o2,(sF l' o2 h3 h4).2,h4⟩
  ·obtain⟨o1,h1,h2⟩:=hl
   obtain⟨hne,h3⟩:=sF l o1 h1 h2
   rcases hi with(hi|hi)|hi
   ·exact hR.uU l b ⟨o1,h3,h2⟩ hb hi
   ·exact hne (hR.inj l q b ⟨o1,h3,h2⟩ Sx hb hi)
   ·have:=hR.gD ⟨o1,h3,h2⟩ hb;omega
 refine⟨.ret r,g2,_,Lu,⟨hm,hE.size,hE.os,hE.tape,hE.output,fun b hb _=>hfr b hb,fun b hb hi=>?_,fun b hb ht=>?_⟩,?_,rfl,rfl⟩
 ·rcases hi with(hi|hi)|hi
  ·exact .inl hi
  ·exact .inr ⟨q,Sx,hi⟩
  ·omega
 ·obtain⟨l,⟨o1,h1,h2⟩,hb2⟩:=ht
  exact⟨l,⟨o1,(sF l o1 h1 h2).2,h2⟩,hb2⟩
 ·cases e with
  | returned v =>
    refine VR.cF (g:=g') (g':=g2) (fun b hb=>⟨?_,rfl⟩) hO hr
    by_cases xg:b<w.heap.size
    ·rcases hE.zc b xg hb with h3|h3
     ·exact .inl h3
     ·exact absurd h3 gw
    ·exact .inr ⟨by omega,hR'.lt b hb⟩
  | panicked c=>exact hO.elim
  | outgrown=>exact hO.elim
end Go.AM
namespace Go.Proofs.YtmbgnaoilncbnaaGreatDoor
open Go.AM
set_option maxRecDepth 4000
theorem place(at_:Int){n:Nat}(hn:0<n)(hl:n≤26): ∃ K:Nat,K<n∧cg .i64 ((cg .u64 at_).tmod (n:Int))=(K:Int):=by
 have h0:0≤cg .u64 at_:=by rw[PS];omega
 have h1:=Int.tmod_lt_of_pos (cg .u64 at_) (b:=(n:Int)) (by omega)
 have h2:=Int.tmod_nonneg (n:Int) h0
 refine⟨((cg .u64 at_).tmod (n:Int)).toNat,by omega,?_⟩
 rw[aj (by omega) (by omega)];omega
end Go.Proofs.YtmbgnaoilncbnaaGreatDoor
namespace Go.Proofs.YtmbgnaoilncbnaaGreatDoor
open Go.AM
set_option maxRecDepth 4000
mutual
def agn: Expr→Nat→Bool
 | .mk _ v s l,d=>decide (d≠0) && decide (s.length≤300) && decide (v.s.length≤300) && decide (l.length≤5) && acL l (d-1)
def acL: List Expr→Nat→Bool
 | [],_=>true
 | x::r,d=>agn x d && acL r d
end
@[go_sem] theorem ago (sz off n : Nat) (cs : List AV) (K : AV → Prop) (h : ¬(off = 0 ∧ n = sz)) : r_ false ⟨true, sz⟩ (.agg cs) off true n (.mk : Tg K) = req (off + n ≤ sz) (.mk : Tg (K (.agg ((cs.drop off).take n)))) := by
  refine aaB _ _ _ _ _ ?_
  rw[Bool.eq_false_iff];intro hh;simp at hh;exact h hh
end Go.Proofs.YtmbgnaoilncbnaaGreatDoor
namespace Go.Proofs.YtmbgnaoilncbnaaGreatDoor
open Go.AM
set_option maxRecDepth 4000
end Go.Proofs.YtmbgnaoilncbnaaGreatDoor
namespace Go.Proofs.YtmbgnaoilncbnaaGreatDoor
open Go.AM
set_option maxRecDepth 4000
end Go.Proofs.YtmbgnaoilncbnaaGreatDoor
namespace Go.Proofs.YtmbgnaoilncbnaaGreatDoor
open Go.AM
set_option maxRecDepth 4000
abbrev TK:=Int × aH × Int
def tk(t:Tok): TK:=(t.kind,t.s,t.n)
def Bd(r:aH): Prop:= ∀ c,r.head? = some c→l9 c=false
def B0(r:aH): Prop:=True
def Bs(r:aH): Prop:=r.head? = some 32
def Lx(B:aH→Prop)(s:aH)(ks:List TK): Prop:= ∀ r,B r→ ∀(f pos:Nat) (acc:List Tok),(s++r).length<f→ ∃ f' ts,r.length<f'∧oN f (s++r) pos acc=oN f' r (pos+s.length) (acc++ts)∧ts.map tk=ks
theorem Lx.nil(B:aH→Prop): Lx B [] []:=fun r _ f pos acc hf=>⟨f,[],hf,by simp,rfl⟩
theorem Lx.app{B1 B2:aH→Prop}{s1 s2:aH}{k1 k2:List TK}(h1:Lx B1 s1 k1)(h2:Lx B2 s2 k2)(hb:∀ r,B2 r→B1 (s2++r)): Lx B2 (s1++s2) (k1++k2):=by
 intro r hr f pos acc hf
 obtain⟨f1,t1,a1,b1,c1⟩:=h1 (s2++r) (hb r hr) f pos acc (by rw[← List.append_assoc];exact hf)
 obtain⟨f2,t2,a2,b2,c2⟩:=h2 r hr f1 (pos+s1.length) (acc++t1) a1
 refine⟨f2,t1++t2,a2,?_,by rw[List.map_append,c1,c2]⟩
 rw[List.append_assoc,b1,b2,List.length_append,List.append_assoc,Nat.add_assoc]
theorem Lx.weak{B B':aH→Prop}{s:aH}{ks:List TK}(h:Lx B s ks)(hb:∀ r,B' r→B r): Lx B' s ks:=fun r hr=>h r (hb r hr)
theorem Lx.sp(B:aH→Prop): Lx B [32] []:=by
 intro r _ f pos acc hf
 obtain⟨f,rfl⟩:∃ k,f=k+1:=⟨f-1,by simp at hf;omega⟩
 refine⟨f,[],by simp at hf;omega,?_,rfl⟩
 rw[List.singleton_append,tf,if_pos (by decide),List.append_nil];rfl
theorem Lx.one{B:aH→Prop}{s:aH}{k:TK}(hs:s≠[])(h32:(s.getD 0 0).toNat≠32)(h:∀ r,B r→ey (s++r)=⟨k.1,k.2.1,k.2.2,s.length,0⟩): Lx B s [k]:=by
 intro r hr f pos acc hf
 have h1:=h r hr
 obtain⟨c,s',rfl⟩:∃ c s',s=c::s':=by cases s with|nil=>exact absurd rfl hs|cons c s'=>exact⟨c,s',rfl⟩
 obtain⟨f,rfl⟩:∃ k,f=k+1:=⟨f-1,by simp at hf;omega⟩
 refine⟨f,[⟨k.1,k.2.1,k.2.2,pos⟩],by simp at hf;omega,?_,rfl⟩
 rw[List.cons_append]at h1 ⊢
 rw[tf,if_neg (by simpa using h32),h1,if_pos rfl]
 simp
theorem nc{c:UInt8}{r:aH}(h:l9 c=false): Bd (c::r):=fun d hd=>by cases hd;exact h
theorem acM: Bd []:=fun d hd=>by cases hd
theorem aec{r:aH}(h:Bs r): Bd r:=fun d hd=>by rw[h]at hd;cases hd;decide
theorem Bs.cons{r:aH}(h:Bs r): ∃ r',r=32::r':=by
 cases r with
 | nil=>cases h
 | cons c r=>cases h;exact⟨r,rfl⟩
theorem oD{m:aH}(hm:m=[40]∨m=[41]∨m=[45]∨m=[44]∨m=[46,46]∨m=[91]∨m=[93]): Lx B0 m [(4,m,0)]:=by
 rcases hm with rfl|rfl|rfl|rfl|rfl|rfl|rfl <;>
  exact Lx.one (by decide) (by decide) (fun r _=>by simp[ey,gJ,cw,o8,l_,List.isPrefixOf])
theorem U1{m:aH}(hm:m=[43]∨m=[45]∨m=[42]∨m=[47]∨m=[61]∨m=[33,61]∨m=[60]∨m=[60,61]∨m=[62]∨m=[62,61]): Lx Bs m [(4,m,0)]:=by
 rcases hm with rfl|rfl|rfl|rfl|rfl|rfl|rfl|rfl|rfl|rfl <;>
  exact Lx.one (by decide) (by decide) (fun r hr=>by obtain⟨r',rfl⟩:=hr.cons;simp[ey,gJ,cw,o8,l_,List.isPrefixOf])
theorem FM{p:UInt8→Bool}{s r:aH}(hs:∀ c ∈ s,p c=true)(hr:∀ c,r.head? = some c→p c=false): (s++r).takeWhile p=s:=by
 induction s with
 | nil =>
   cases r with
   | nil=>rfl
   | cons c r=>rw[List.nil_append,List.takeWhile_cons,hr c rfl];rfl
 | cons c s ih =>
   rw[List.cons_append,List.takeWhile_cons,hs c (by simp),if_pos rfl,ih (fun d hd=>hs d (by simp[hd]))]
theorem takeWhile_eq{p:UInt8→Bool}{s:aH}(h:(s.takeWhile p).length=s.length): ∀ c ∈ s,p c=true:=by
 induction s with
 | nil=>intro c hc;cases hc
 | cons c s ih =>
   rw[List.takeWhile_cons]at h
   split at h
   ·rename_i hp
    intro d hd
    rcases List.mem_cons.1 hd with rfl|hd
    ·exact hp
    ·exact ih (by simpa using h) d hd
   ·simp at h
theorem X9{s:aH}(hs:s≠[])(h:gx s=s.length): gJ (s.getD 0 0)=true∧ ∀ c ∈ s,l9 c=true:=by
 cases s with
 | nil=>exact absurd rfl hs
 | cons c r =>
   unfold gx at h
   dsimp only at h
   split at h
   ·rename_i hc;exact⟨hc,takeWhile_eq h⟩
   ·simp at h
theorem y_{s:aH}(hs:s≠[])(h:gx s=s.length)(hl:s.length≤16): Lx Bd s [(1,s,0)]:=by
 obtain⟨h1,h2⟩:=X9 hs h
 obtain⟨c,s',rfl⟩:∃ c s',s=c::s':=by cases s with|nil=>exact absurd rfl hs|cons c s'=>exact⟨c,s',rfl⟩
 rw[List.getD_cons_zero]at h1
 refine Lx.one hs (fun h32=>?_) (fun r hr=>?_)
 ·rw[List.getD_cons_zero]at h32
  simp[gJ,h32]at h1
 ·have hw : gx ((c :: s') ++ r) = (c :: s').length := by
   unfold gx
   rw[List.cons_append]
   dsimp only
   rw[if_pos h1,← List.cons_append,FM h2 hr]
  unfold ey
  simp only[List.cons_append,List.getD_cons_zero,h1,if_true]
  rw[← List.cons_append]
  unfold yQ
  rw[hw,if_neg (by omega),List.take_append_of_le_length (Nat.le_refl _),List.take_length]
theorem Zx(a b:aH): ∀ v:Int,mz (a++b) v=(mz a v).bind (mz b):=by
 induction a with
 | nil=>intro v;rfl
 | cons c r ih =>
   intro v
   rw[List.cons_append]
   simp only[mz]
   split
   ·rfl
   ·exact ih _
theorem Pp{d:Nat}(h:d<10): (UInt8.ofNat (48+d)).toNat=48+d:=by
 rw[UInt8.toNat_ofNat'];omega
theorem Wt(u:Nat): Lib.decDigits u≠[]∧(∀ c ∈ Lib.decDigits u,cw c=true)∧(1≤u→((Lib.decDigits u).getD 0 0).toNat≠48)∧(u≤9223372036854775807→mz (Lib.decDigits u) 0=some (u:Int)):=by
 induction u using Nat.strongRecOn with
 | _ u ih =>
   rw[Lib.decDigits]
   split
   ·rename_i h
    have ht:=Pp h
    refine⟨by simp,fun c hc=>?_,fun h1=>?_,fun h2=>?_⟩
    ·simp only[List.mem_cons,List.not_mem_nil,or_false]at hc;subst hc
     simp only[cw,ht,Bool.and_eq_true,decide_eq_true_eq];omega
    ·rw[List.getD_cons_zero,ht];omega
    ·simp only[mz,ht]
     rw[if_neg (by omega)]
     congr 1;omega
   ·rename_i h
    obtain⟨i1,i2,i3,i4⟩:=ih (u / 10) (by omega)
    have ht:=Pp (d:=u % 10) (by omega)
    refine⟨by simp,fun c hc=>?_,fun h1=>?_,fun h2=>?_⟩
    ·rcases List.mem_append.1 hc with hc|hc
     ·exact i2 c hc
     ·simp only[List.mem_cons,List.not_mem_nil,or_false]at hc;subst hc
      simp only[cw,ht,Bool.and_eq_true,decide_eq_true_eq];omega
    ·have:=i3 (by omega)
     generalize Lib.decDigits (u / 10)=w at *
     cases w with
     | nil=>exact absurd rfl i1
     | cons c w=>simpa using this
    ·rw[Zx,i4 (by omega),Option.bind_some]
     simp only[mz,ht]
     rw[if_neg (by omega)]
     congr 1;omega
theorem acN{n:Int}(h0:0≤n)(h1:n≤9223372036854775807): Lx Bd (Lib.itoa n) [(2,[],n)]:=by
 obtain⟨u,rfl⟩:∃ u:Nat,n=u:=⟨n.toNat,by omega⟩
 rw[Lib.itoa_nonneg]
 obtain⟨i1,i2,i3,i4⟩:=Wt u
 have i4:=i4 (by omega)
 have i5:1<(Lib.decDigits u).length→((Lib.decDigits u).getD 0 0).toNat≠48:=fun hl=>i3 (by
  by_cases hu:u<10
  ·rw[Lib.decDigits,dif_pos hu]at hl;simp at hl
  ·omega)
 clear i3
 generalize Lib.decDigits u=w at *
 obtain⟨c,s',rfl⟩:∃ c s',w=c::s':=by cases w with|nil=>exact absurd rfl i1|cons c s'=>exact⟨c,s',rfl⟩
 have hd:=i2 c (by simp)
 have hd2:=hd
 simp only[cw,Bool.and_eq_true,decide_eq_true_eq]at hd2
 have hlt:gJ c=false:=by simp[gJ];omega
 rw[List.getD_cons_zero]at i5
 refine Lx.one i1 (by rw[List.getD_cons_zero];omega) (fun r hr=>?_)
 have htw:((c::s')++r).takeWhile cw=c::s':=FM i2 (fun d hd=>by have:=hr d hd;simp only[l9,Bool.or_eq_false_iff]at this;exact this.2)
 unfold ey
 simp only[List.cons_append,List.getD_cons_zero,hlt,hd,if_true,Bool.false_eq_true,if_false]
 rw[← List.cons_append]
 unfold kN
 rw[htw]
 simp only
 rw[if_neg (fun hh=>i5 hh.1 (by simpa using hh.2)),i4]
theorem T2(s r:aH): (∀ c ∈ s,ig c=true)→ ∀(b:aH) (i:Nat),b.length+s.length≤40→gT (s.flatMap fP++(34::r)) b i=⟨3,b++s,0,i+(s.flatMap fP).length+1,0⟩:=by
 induction s with
 | nil =>
   intro _ b i hb
   rw[List.flatMap_nil,List.nil_append,dn,if_pos (by decide),if_neg (by simp at hb;omega)]
   simp
 | cons c s ih =>
   intro hp b i hb
   have hc:=hp c (by simp)
   have hs:=fun d hd=>hp d (List.mem_cons_of_mem _ hd)
   rw[List.length_cons]at hb
   have:=ih hs (b++[c])
   rw[List.flatMap_cons,List.append_assoc]
   unfold fP
   split
   ·rename_i hq
    rw[List.cons_append,dn,if_neg (by decide),if_pos (by decide)]
    rw[List.singleton_append]
    dsimp only
    rw[if_pos hq]
    have h2:=this (i+2) (by simp;omega)
    rw[show (fun c=>if c.toNat=34∨c.toNat=92 then [92,c]else [c])=fP from rfl,h2]
    simp;omega
   ·rename_i hq
    rw[List.singleton_append,dn,if_neg (by omega),if_neg (by omega),if_pos hc]
    have h2:=this (i+1) (by simp;omega)
    rw[show (fun c=>if c.toNat=34∨c.toNat=92 then [92,c]else [c])=fP from rfl,h2]
    simp;omega
theorem aaZ{s:aH}(h:ij s=true): Lx B0 (kY s) [(3,s,0)]:=by
 simp only[ij,Bool.and_eq_true,decide_eq_true_eq,List.all_eq_true]at h
 refine Lx.one (by simp[kY]) (by simp[kY]) (fun r _=>?_)
 unfold ey kY
 simp only[List.cons_append,List.getD_cons_zero]
 rw[if_neg (by decide),if_neg (by decide),if_pos (by decide),List.drop_succ_cons,List.drop_zero,List.append_assoc,List.singleton_append,T2 s r h.2 [] 1 (by simpa using h.1)]
 simp;omega
def sP(v:dy): TK:=if v.kind=1 then(2,[],v.n)else if v.kind=2 then(3,v.s,0)else if v.kind=3 then(1,if v.n=1 then jO else iL,0)else (1,lq,0)
theorem acO{v:dy}(hr:bS v=true)(hn:v.kind≠1∨0≤v.n)(hm:v.n≤9223372036854775807): Lx Bd (qM v) [sP v]:=by
 unfold qM sP
 unfold bS at hr
 by_cases h1:v.kind=1
 ·rw[if_pos h1,if_pos h1];exact acN (by omega) hm
 by_cases h2:v.kind=2
 ·rw[if_neg h1,if_neg h1,if_pos h2,if_pos h2]
  rw[if_neg (by omega),if_neg h1,if_pos h2]at hr
  simp only[Bool.and_eq_true]at hr
  exact(aaZ hr.2).weak (fun _ _=>trivial)
 rw[if_neg h1,if_neg h1,if_neg h2,if_neg h2]
 split
 ·split<;>exact y_ (by decide) (by decide) (by decide)
 ·exact y_ (by decide) (by decide) (by decide)
def ja(w:Int × List TK)(lvl:Int): List TK:=if w.1<lvl then(4,[40],0)::(w.2++[(4,[41],0)])else w.2
def Sz: TK:=(1,[105,102],0)
def Dn: TK:=(1,thenS,0)
def Dp: TK:=(1,wF,0)
def EE(op:Int): TK:=(gy (bt op),(bt op).sign,0)
def jw(op:Int)(v:dy)(s:aH)(ws:List (Int × List TK)): List TK :=
 if op=1 then [sP v]else if op=2 then [(1,s,0)]
 else if op=3 then(4,[45],0)::ja (ws.getD 0 default) 6
 else if op=16 then Sz::(ja (ws.getD 0 default) 0++(Dn::(ja (ws.getD 1 default) 0++(Dp::ja (ws.getD 2 default) 0))))
 else ja (ws.getD 0 default) (if(bt op).level=3 then 4 else(bt op).level)++(EE op::ja (ws.getD 1 default) ((bt op).level+1))
mutual
def cG: Expr→List TK
 | .mk op v s l=>jw op v s (uO l)
def uO: List Expr→List (Int × List TK)
 | []=>[]
 | x::r=>(bR x.op,cG x)::uO r
end
def bU(x:Expr)(lvl:Int): List TK:=ja (bR x.op,cG x) lvl
theorem SA{w:aH}{ks:List TK}(h:Lx Bd w ks)(n lvl:Int): Lx Bd (iM (n,w) lvl) (ja (n,ks) lvl):=by
 unfold iM ja
 dsimp only
 split
 ·have h1 : Lx Bd ([40] ++ (w ++ [41])) ([(4, [40], 0)] ++ (ks ++ [(4, [41], 0)])) :=
   (oD (.inl rfl)).app ((h.app ((oD (.inr (.inl rfl))).weak (fun _ _=>trivial)) (fun r _=>nc (by decide)))) (fun _ _=>trivial)
  exact h1
 ·exact h
theorem aed{b:yu}(hb:b ∈ dL): Lx Bs b.sign [(gy b,b.sign,0)]:=by
 simp only[dL,List.mem_cons,List.not_mem_nil,or_false]at hb
 rcases hb with rfl|rfl|rfl|rfl|rfl|rfl|rfl|rfl|rfl|rfl|rfl|rfl
 all_goals first
  | exact U1 (by decide)
  | exact(y_ (by decide) (by decide) (by decide)).weak (fun _ h=>aec h)
theorem U2(x:Expr): bC x=true→eH x→Lx Bd (bF x) (cG x):=by
 induction x using Expr.ind with
 | h op v s l ih =>
   intro hr hx
   simp only[eH]at hx
   obtain⟨_,_,Om,L4,hl⟩:=hx
   have key:∀ y ∈ l,bC y=true→ ∀ lvl,Lx Bd (iM (bR y.op,bF y) lvl) (ja (bR y.op,cG y) lvl):=fun y hy Pe lvl=>SA (ih y hy Pe (v8 hl hy)) _ _
   rcases ju hr with⟨rfl,rfl,rfl,h1,h2⟩|⟨rfl,rfl,rfl,h1⟩|⟨rfl,rfl,rfl,a,rfl,ha⟩|⟨rfl,rfl,rfl,a,b,c,rfl,ha,hb,hc⟩|⟨o1,o2,rfl,rfl,_,_,_,_,hmem,a,b,rfl,ha,hb⟩
   ·simp only[bF,cG,jt,jw,if_true]
    exact acO h1 h2 L4
   ·simp only[bF,cG,jt,jw,if_true]
    rw[if_neg (by decide),if_neg (by decide)]
    simp only[eK,Bool.and_eq_true,decide_eq_true_eq]at h1
    exact y_ h1.1.1.1 h1.1.1.2 h1.1.2
   ·have k1:=key a (by simp) ha 6
    simp only[bF,cG,jt,jw,me,uO]
    rw[if_neg (by decide),if_neg (by decide),if_pos trivial,if_neg (by decide),if_neg (by decide),if_pos trivial]
    exact(oD (m:=[45]) (by decide)).app k1 (fun _ _=>trivial)
   ·have k1:=key a (by simp) ha 0
    have k2:=key b (by simp) hb 0
    have k3:=key c (by simp) hc 0
    simp only[bF,cG,jt,jw,me,uO]
    rw[if_neg (by decide),if_neg (by decide),if_neg (by decide),if_pos trivial,if_neg (by decide),if_neg (by decide),if_neg (by decide),if_pos trivial]
    simp only[List.getD_cons_zero,List.getD_cons_succ]
    have hw:∀ w:aH,w≠[]→gx w=w.length→w.length≤16→Lx B0 (w++[32]) [(1,w,0)]:=fun w a1 a2 a3=>by
     have:=(y_ a1 a2 a3).app (Lx.sp B0) (fun r _=>nc (by decide))
     simpa using this
    have hw2:∀ w:aH,w≠[]→gx w=w.length→w.length≤16→Lx B0 (32::(w++[32])) [(1,w,0)]:=fun w a1 a2 a3=>by
     have:=(Lx.sp B0).app (hw w a1 a2 a3) (fun _ _=>trivial)
     simpa using this
    have e1:Lx B0 oQ [Sz]:=hw [105,102] (by decide) (by decide) (by decide)
    have e2:Lx B0 kZ [Dn]:=hw2 thenS (by decide) (by decide) (by decide)
    have e3:Lx B0 qa [Dp]:=hw2 wF (by decide) (by decide) (by decide)
    have b2:∀ r,B0 r→Bd (kZ++r):=fun r _=>nc (by decide)
    have b3:∀ r,B0 r→Bd (qa++r):=fun r _=>nc (by decide)
    have:=((((e1.app k1 (fun _ _=>trivial)).app e2 b2).app k2 (fun _ _=>trivial)).app e3 b3).app k3 (fun _ _=>trivial)
    simpa using this
   ·have k1:=key a (by simp) ha (if(bt op).level=3 then 4 else(bt op).level)
    have k2:=key b (by simp) hb ((bt op).level+1)
    have w1:bF (.mk op v0 [] [a,b])=iM (bR a.op,bF a) (if(bt op).level=3 then 4 else(bt op).level)++[32]++(bt op).sign++[32]++iM (bR b.op,bF b) ((bt op).level+1):=by
     simp only[bF,me,jt]
     rw[if_neg (by omega),if_neg (by omega),if_neg (by omega),if_neg (by omega)]
     rfl
    have w2:cG (.mk op v0 [] [a,b])=ja (bR a.op,cG a) (if(bt op).level=3 then 4 else(bt op).level)++(EE op::ja (bR b.op,cG b) ((bt op).level+1)):=by
     simp only[cG,uO,jw]
     rw[if_neg (by omega),if_neg (by omega),if_neg (by omega),if_neg (by omega)]
     rfl
    rw[w1,w2]
    have:=(((k1.app (Lx.sp B0) (fun r _=>nc (by decide))).app (aed hmem) (fun _ _=>trivial)).app (Lx.sp B0) (fun r _=>rfl)).app k2 (fun _ _=>trivial)
    simpa[EE]using this
theorem IG{s:aH}{ks:List TK}(h:Lx Bd s ks)(hs:s.length≤200): ∃ T,bf s=(T,0,0)∧T.map tk=ks:=by
 obtain⟨f',ts,h1,h2,h3⟩:=h [] acM (s.length+1) 0 [] (by simp)
 refine⟨ts,?_,h3⟩
 unfold bf
 rw[if_neg (by omega)]
 rw[List.append_nil]at h2
 rw[h2]
 cases f' with
 | zero=>simp at h1
 | succ f'=>simp[oN]
end Go.Proofs.YtmbgnaoilncbnaaGreatDoor
