/- Part. -/
import Derived.Test.YtmbgnaoilncbnaaGreatDoorX30
set_option linter.all false
namespace Go.Proofs.YtmbgnaoilncbnaaGreatDoor
open Go.AM
set_option maxRecDepth 4000
def FI{α : Type}[Inhabited α]{p : α->Bool}{l:List α}(h:∀ k,k<l.length->p (l.getD k default)=true): l.all p=true:=by
 rw[bx];intro x hx;obtain⟨i,hi,rfl⟩:=bW hx;have:=h i hi;rwa[aE,aQ hi,bT]at this
def FJ{α : Type}[Inhabited α]{p : α->Bool}{l:List α}{i:Nat}(hi:i<l.length)(h:p (l.getD i default)=false): l.all p=false:=by
 cases hq:l.all p with
 | false=>rfl
 | true=>rw[List.all_eq_true]at hq;rw[hq _ (a_ hi)]at h;cases h
def Ss(n:Nat)(s:aJ): Bool:=decide (s.length<=n)
def LP(l:List aJ): Bool:=decide (l.length<=10) && l.all (Ss 300)
def NL(l:List aJ): ai Tryz.prog vL [eR l] (.bool (LP l)):=by
 obtain⟨E,hE⟩:∃ E,LP l=E:=⟨_,rfl⟩;rw[hE];unfold LP at hE;simp only[eR];refine ai.aG (RN (by simp) ?_) (by simp);unfold IV aP;intro Q au aA aB;repeat' first|refine aq ?_|refine ak ?_ ?_<;>intro hw<;>try omega|fail
 ·refine aM ?_ rfl;rw[<-hE,decide_eq_false (by omega),dH]
 have h10:l.length<=10:=by omega
 rw[decide_eq_true h10,dA]at hE;with_reducible refine bn [2,3,7,8,9,10,11,12,13,14,15,16,17,18] (fun i:Nat=>[(3,I i)]) (fun _=>[]) (fun i=>i<=l.length/\ ∀ k,k<i->Ss 300 (l.getD k default)=true) (fun i=>l.length-i) (0) ?_ ?_ ?_ ?_
 ·simp
 ·rfl
 ·exact at_
 rintro i r ⟨h1,h2⟩;by_cases hi:i<l.length
 ·have hne:=fun h=>FJ (p:=Ss 300) hi h;have bY:=fun he=>bf (q:=fun k=>Ss 300 (l.getD k default)=true) h2 (i:=i) he;have hS:Ss 300 (l.getD i default)=decide ((l.getD i default).length<=300):=rfl;rw[hS]at hne bY;repeat' first|refine aq ?_|refine ak ?_ ?_<;>intro hw<;>try omega|fail
  all_goals first
   | exact aY
   |(refine aM ?_ rfl;rw[<-hE,hne (decide_eq_false (by omega))])
   | (refine ⟨i + 1, ?_, ?_, by first | rfl | (simp [go_sem]; done), bJ, at_⟩ <;> (try dsimp only)
      ·exact⟨by omega,bY (decide_eq_true (by omega))⟩
      ·omega)
 ·repeat' first|refine aq ?_|refine ak ?_ ?_<;>intro hw<;>try omega|fail
  refine aM ?_ rfl;rw[<-hE,FI (fun k hk=>h2 k (by omega))]
def Ms(c:cI): Bool:=decide (c.name.length<=300)
def LQ(l:List cI): Bool:=decide (l.length<=12) && l.all Ms
def ab2(l:List cI): ai Tryz.prog v8 [bB l] (.bool (LQ l)):=by
 obtain⟨E,hE⟩:∃ E,LQ l=E:=⟨_,rfl⟩;rw[hE];unfold LQ at hE;simp only[bB];refine ai.aG (MO (by simp) ?_) (by simp);unfold Di aP;intro Q au aA aB;repeat' first|refine aq ?_|refine ak ?_ ?_<;>intro hw<;>try omega|fail
 ·refine aM ?_ rfl;rw[<-hE,decide_eq_false (by omega),dH]
 have h10:l.length<=12:=by omega
 rw[decide_eq_true h10,dA]at hE;with_reducible refine bn [2,3,7,8,9,10,11,12,13,14,15,16,17,18,19] (fun i:Nat=>[(3,I i)]) (fun _=>[]) (fun i=>i<=l.length/\ ∀ k,k<i->Ms (l.getD k default)=true) (fun i=>l.length-i) (0) ?_ ?_ ?_ ?_
 ·simp
 ·rfl
 ·exact at_
 rintro i r ⟨h1,h2⟩;by_cases hi:i<l.length
 ·have hne:=fun h=>FJ (p:=Ms) hi h;have bY:=fun he=>bf (q:=fun k=>Ms (l.getD k default)=true) h2 (i:=i) he;have hS:Ms (l.getD i default)=decide ((l.getD i default).name.length<=300):=rfl;rw[hS]at hne bY;repeat' first|refine aq ?_|refine ak ?_ ?_<;>intro hw<;>try omega|fail
  all_goals first
   | exact aY
   |(refine aM ?_ rfl;rw[<-hE,hne (decide_eq_false (by omega))])
   | (refine ⟨i + 1, ?_, ?_, by first | rfl | (simp [go_sem]; done), bJ, at_⟩ <;> (try dsimp only)
      ·exact⟨by omega,bY (decide_eq_true (by omega))⟩
      ·omega)
 ·repeat' first|refine aq ?_|refine ak ?_ ?_<;>intro hw<;>try omega|fail
  refine aM ?_ rfl;rw[<-hE,FI (fun k hk=>h2 k (by omega))]
def tM(v:eg): Bool:=decide (v.s.length<=300)
def St(c:cI): Bool:=decide (c.order.length<=12) && c.order.all tM
def Io(l:List cI): Bool:=LQ l && l.all St
def NM(l:List cI): ai Tryz.prog vK [bB l] (.bool (Io l)):=by
 have cf:=ab2 l;obtain⟨E,hE⟩:∃ E,Io l=E:=⟨_,rfl⟩;rw[hE];unfold Io at hE;have h12:LQ l=true->l.length<=12:=fun h=>by simp only[LQ,aF,decide_eq_true_eq]at h;exact h.1
 simp only[bB]at cf ⊢;generalize LQ l=fe at *;refine ai.aG (RM (by simp) ?_) (by simp);unfold IU aP;intro Q au aA aB;cases fe with
 | false =>
   repeat' first|refine aq ?_|refine aC cf ?_|refine ak ?_ ?_<;>intro hw<;>try omega|fail
   all_goals first
    | exact aY
    |(refine aM ?_ rfl;rw[<-hE,dH])
 | true =>
   rw[dA]at hE;have h12:=h12 rfl;repeat' first|refine aq ?_|refine aC cf ?_|refine ak ?_ ?_<;>intro hw<;>try omega|fail
   all_goals first|exact aY|skip
   with_reducible refine bn [2,3,4,8,9,10,11,12,13,14,15,16,17,18,19,20,21,22,23,24,25,26,27,28,29,30,31,32,33,34,35,36,37,38,39,40,41] (fun i:Nat=>[(3,I i)]) (fun _=>[]) (fun i=>i<=l.length/\ ∀ k,k<i->St (l.getD k default)=true) (fun i=>l.length-i) (0) ?_ ?_ ?_ ?_
   ·simp
   ·rfl
   ·exact at_
   rintro i r ⟨h1,h2⟩;by_cases hi:i<l.length
   ·have hne:=fun h=>FJ (p:=St) hi h;have bY:=fun he=>bf (q:=fun k=>St (l.getD k default)=true) h2 (i:=i) he;have hS:St (l.getD i default)=(decide ((l.getD i default).order.length<=12) && (l.getD i default).order.all tM):=rfl;rw[hS]at hne bY;obtain⟨c,hc⟩:∃ c,l.getD i default=c:=⟨_,rfl⟩;rw[hc]at hne bY;clear hS;repeat' first|simp (disch:=omega) only[go_sem,au,aA,aB,hc]|refine aq ?_|refine ak ?_ ?_<;>intro hw<;>try omega|fail
    ·refine aM ?_ rfl;rw[<-hE,hne (by rw[decide_eq_false (by omega),dH])]
    have ho:c.order.length<=12:=by omega
    rw[decide_eq_true ho,dA]at hne bY;with_reducible refine bn [2,4,21,22,23,24,25,26,27,28,29,30,31,32,33,34,35,36,37,38,39,40,41] (fun j:Nat=>[(4,I j)]) (fun _=>[]) (fun j=>j<=c.order.length/\ ∀ k,k<j->tM (c.order.getD k default)=true) (fun j=>c.order.length-j) (0) ?_ ?_ ?_ ?_
    ·simp
    ·rfl
    ·exact at_
    rintro j r2 ⟨g1,g2⟩;by_cases hj:j<c.order.length
    ·have LR:=fun h=>FJ (p:=tM) hj h;have j8:=fun he=>bf (q:=fun k=>tM (c.order.getD k default)=true) g2 (i:=j) he;have hS:tM (c.order.getD j default)=decide ((c.order.getD j default).s.length<=300):=rfl;rw[hS]at LR j8;repeat' first|simp (disch:=omega) only[go_sem,au,aA,aB,hc]|refine aq ?_|refine ak ?_ ?_<;>intro hw<;>try omega|fail
     all_goals first
      | exact aY
      |(refine aM ?_ rfl;rw[<-hE,hne (LR (decide_eq_false (by omega)))])
      | (refine ⟨j + 1, ?_, ?_, by first | rfl | (simp [go_sem]; done), bJ, at_⟩ <;> (try dsimp only)
         ·exact⟨by omega,j8 (decide_eq_true (by omega))⟩
         ·omega)
    ·repeat' first|simp (disch:=omega) only[go_sem,au,aA,aB,hc]|refine aq ?_|refine ak ?_ ?_<;>intro hw<;>try omega|fail
     refine⟨i+1,?_,?_,by first|rfl|(simp[go_sem];done),bJ,at_⟩<;>(try dsimp only)
     ·exact⟨by omega,bY (FI (fun k hk=>g2 k (by omega)))⟩
     ·omega
   ·repeat' first|refine aq ?_|refine ak ?_ ?_<;>intro hw<;>try omega|fail
    refine aM ?_ rfl;rw[<-hE,FI (fun k hk=>h2 k (by omega))]
def Sv(r:dO): Bool:=LP r.cells && LP r.outs
def Am(t:Table): Bool:=decide (t.name.length<=300) && decide (t.rules.length<=26) && Io t.ins && Io t.outs && t.rules.all Sv
def X9(t:Table): ai Tryz.prog xg [bS t] (.bool (Am t)):=by
 have ci:=NM t.ins;have co:=NM t.outs;obtain⟨E,hE⟩:∃ E,Am t=E:=⟨_,rfl⟩;rw[hE];unfold Am at hE;simp only[bS,dy,bB,cW]at ci co ⊢;generalize Io t.ins=oi at *;generalize Io t.outs=oo at *;refine ai.aG (Oa (by simp) ?_) (by simp);unfold Es aP;intro Q au aA aB;by_cases hb:(decide (t.name.length<=300) && decide (t.rules.length<=26) && oi && oo)=true
 case neg =>
  simp only[dL]at hb;rw[hb,dH]at hE;cases oi<;>cases oo
  all_goals
   repeat' first|refine aq ?_|refine aC ci ?_|refine aC co ?_|refine ak ?_ ?_<;>intro hw<;>try omega|fail
  all_goals first
   | exact aY
   |(refine aM ?_ rfl;rw[<-hE])
   |(exfalso;simp at hb;omega)
 rw[hb,dA]at hE;simp only[aF,decide_eq_true_eq]at hb;obtain⟨⟨⟨b1,b2⟩,rfl⟩,rfl⟩:=hb;repeat' first|refine aq ?_|refine aC ci ?_|refine aC co ?_|refine ak ?_ ?_<;>intro hw<;>try omega|fail
 all_goals first|exact aY|skip
 with_reducible refine bn [2,3,26,27,28,29,30,31,32,33,34,35,36,37,38,39,40,41,42,43,44,45,46,47,48,49,50] (fun i:Nat=>[(3,I i)]) (fun _=>[.cells [.str t.name,.aK false EC (t.ins.map bE),.aK false EC (t.outs.map bE),I t.bA,I t.agg,.aK false ER (t.rules.map cN)]]) (fun i=>i<=t.rules.length/\ ∀ k,k<i->Sv (t.rules.getD k default)=true) (fun i=>t.rules.length-i) (0) ?_ ?_ ?_ ?_
 ·simp
 ·rfl
 ·exact at_
 rintro i r ⟨h1,h2⟩;by_cases hi:i<t.rules.length
 ·have hne:=fun h=>FJ (p:=Sv) hi h;have bY:=fun he=>bf (q:=fun k=>Sv (t.rules.getD k default)=true) h2 (i:=i) he;have hS:Sv (t.rules.getD i default)=(LP (t.rules.getD i default).cells && LP (t.rules.getD i default).outs):=rfl;have c1:=NL (t.rules.getD i default).cells;have c2:=NL (t.rules.getD i default).outs;rw[hS]at hne bY;simp only[eR]at c1 c2;generalize LP (t.rules.getD i default).cells=u1 at *;generalize LP (t.rules.getD i default).outs=u2 at *;cases u1<;>cases u2
  all_goals
   repeat' first|refine aq ?_|refine aC c1 ?_|refine aC c2 ?_|refine ak ?_ ?_<;>intro hw<;>try omega|fail
  all_goals first
   | exact aY
   |(refine aM ?_ rfl;rw[<-hE,hne rfl])
   | (refine ⟨i + 1, ?_, ?_, by first | rfl | (simp [go_sem]; done), bJ, at_⟩ <;> (try dsimp only)
      ·exact⟨by omega,bY rfl⟩
      ·omega)
 ·repeat' first|refine aq ?_|refine ak ?_ ?_<;>intro hw<;>try omega|fail
  refine aM ?_ rfl;rw[<-hE,FI (fun k hk=>h2 k (by omega))]
end Go.Proofs.YtmbgnaoilncbnaaGreatDoor
namespace Go.Proofs.YtmbgnaoilncbnaaGreatDoor
open Go.AM
set_option maxRecDepth 8000
def WQ(v:eg): Prop:= -9223372036854775808<=v.n/\v.n<=9223372036854775807
def aaL(l:List cI): Prop:= ∀ c ∈ l,∀ v ∈ c.order,WQ v
def N_(t:Table): Prop:=aaL t.ins/\aaL t.outs
def Zg{l:List cI}(h:Io l=true)(hr:aaL l): l.length<=12/\ ∀ c ∈ l,uq c:=by
 simp only[Io,LQ,aF,decide_eq_true_eq,bx]at h;obtain⟨⟨h1,h2⟩,h3⟩:=h;refine⟨h1,fun c hc=>?_⟩;have a:=h2 c hc;have b:=h3 c hc;simp only[Ms,St,aF,decide_eq_true_eq,bx]at a b;refine⟨by omega,by omega,fun v hv=>⟨hr c hc v hv,?_⟩⟩;have:=b.2 v hv;simp only[tM,decide_eq_true_eq]at this;omega
def WR{l:List aJ}(h:LP l=true): l.length<=10/\ ∀ s ∈ l,s.length<=300:=by
 simp only[LP,aF,decide_eq_true_eq,bx]at h;exact⟨h.1,fun s hs=>by have:=h.2 s hs;simpa[Ss]using this⟩
def adB{t:Table}(h:Am t=true)(hr:N_ t): mh t:=by
 simp only[Am,aF,decide_eq_true_eq,bx]at h;obtain⟨⟨⟨⟨h1,h2⟩,h3⟩,h4⟩,h5⟩:=h;have ci:=Zg h3 hr.1;have co:=Zg h4 hr.2;refine⟨by omega,⟨by omega,ci.2⟩,⟨by omega,co.2⟩,by omega,fun r hrr=>?_⟩;have:=h5 r hrr;simp only[Sv,aF]at this;have a:=WR this.1;have b:=WR this.2;exact⟨⟨by omega,fun s hs=>by have:=a.2 s hs;omega⟩,by omega,fun s hs=>by have:=b.2 s hs;omega⟩
end Go.Proofs.YtmbgnaoilncbnaaGreatDoor
namespace Go.Proofs.YtmbgnaoilncbnaaGreatDoor
open Go.AM
set_option maxRecDepth 4000
def qM{α : Type}{p : α-> α->Bool}(l:List α)(h:∀ x ∈ l,p x x=true): gx p l l=true:=by
 induction l with
 | nil=>rfl
 | cons x l ih=>simp only[gx,h x (by simp),dA];exact ih (fun y hy=>h y (cZ _ hy))
def LS(t:Table): iX t t=true:=by
 have hc:∀ l:List cI,gx hU l l=true:=fun l=>qM l (fun c _=>by
  unfold hU;rw[qM c.order (fun v _=>by simp)];simp)
 have hr:∀ l:List dO,gx jT l l=true:=fun l=>qM l (fun r _=>by
  unfold jT;rw[qM r.cells (fun v _=>by simp),qM r.outs (fun v _=>by simp)];rfl)
 unfold iX;rw[hc,hc,hr];simp
def Zh{l:List cI}(h:l.length<=2 ^ 30/\ ∀ c ∈ l,uq c): LL l:=⟨by omega,fun c hc=>(h.2 c hc).2.1⟩
def Ao{t:Table}(h:mh t): Ik t:=⟨Zh h.2.1,Zh h.2.2.1,by have:=h.2.2.2.1;omega,fun r hr=>by
 have:=h.2.2.2.2 r hr;exact⟨by omega,by omega⟩⟩
def Sw: Ik bM:=⟨⟨by decide,fun c hc=>(by cases hc)⟩,⟨by decide,fun c hc=>(by cases hc)⟩,by decide,fun c hc=>(by cases hc)⟩
def WS{t:Table}(h:mh t): Ik (iK t).1:=by
 by_cases he:(eE t).2.2.2=0
 ·unfold iK;rw[if_neg (by omega)];split
  ·exact Sw
  ·obtain⟨a,b,c,d⟩:=Ao h;obtain⟨h1,h2⟩:=FG h he;refine⟨a,b,?_,fun r hr=>?_⟩
   ·dsimp only;rw[tJ];omega
   ·obtain⟨k,_,rfl⟩:=ek.1 hr;have hk:=h2 k;unfold n6;rw[WK];refine⟨?_,?_⟩
    ·dsimp only;rw[Il];have:=hk.1.1;omega
    ·dsimp only;rw[LM];have:=hk.2.1;omega
 ·rw[zG he];exact Sw
end Go.Proofs.YtmbgnaoilncbnaaGreatDoor
namespace Go.AM
variable {P:Program}
def View.live{σ σ':aj}(hs:∀ (l:Nat) o,σ[l]? = some o->o.live=true->σ'[l]? = some o){a b:AV}(h:View σ a b): View σ' a b:=by
 induction h with
 | refl a h=>exact .refl a h
 | ae el=>exact .ae el
 | weak f el xs h=>exact .weak f el xs h
 | aK f el xs ys hl _ ih=>exact .aK f el xs ys hl ih
 | own T el l lo n xs ys hl hy hn _ ih=>exact .own T el l lo n xs ys (hs _ _ hl rfl) hy hn ih
 | agg cs ds hl _ ih=>exact .agg cs ds hl ih
 | bX cs ds hl _ ih=>exact .bX cs ds hl ih
 | cell l v hl h hp=>exact .cell l v (hs _ _ hl rfl) h hp
 | cells l n cs hl hn hp=>exact .cells l n cs (hs _ _ hl rfl) hn hp
 | fn f az bs cs ds hl _ hl' _ ih JV=>exact .fn f az bs cs ds hl ih hl' JV
def aaM(q:Nat)(o:aX): aj:=List.replicate q .dead++[o]
def ab3{q:Nat}{o:aX}(l:Nat)(o':aX)(h:(aaM q o)[l]? = some o')(hl:o'.live=true): l=q/\o'=o:=by
 unfold aaM at h;by_cases h1:l<q
 ·rw[List.getElem?_append_left (by simpa using h1)]at h;simp[List.getElem?_replicate,h1]at h;subst h;cases hl
 ·rw[bU (by simpa using Nat.le_of_not_lt h1)]at h;simp only[fQ]at h
  have:l-q=0:=by
   apply Nat.eq_zero_of_not_pos;intro hp;rw[List.getElem?_eq_none (by simp;omega)]at h;cases h
  rw[this]at h;simp at h;exact⟨by omega,h.symm⟩
def ai.freeze {f : FuncId} {az bz : List AV} {r : AV} {σ : aj} {q : Nat} {o : aX} (h : ai P f bz r) (hq : σ[q]? = some o) (ho : o.live = true) (hv : aW (aaM q o) az bz) (hr : r.dn = true) :
    f_ P f az σ fun out s=>out = .ret r/\s = σ.set q .dead:=by
 refine⟨(h []).1,fun g w vs hR hlen hvs=>?_⟩;have hqn:q<g.n:=by rw[<-hR.len];exact(aN.1 hq).1
 have WT:Live σ q:=⟨o,hq,ho⟩
 let I:Nat->Prop:=fun b=>g.gi b\/g.base q=some b
 have hlt:∀ b,I b->b<w.heap.size:=fun b hb=>by
  rcases hb with hb|hb
  ·exact hR.lt b hb
  ·exact hR.jA WT hb
 let TA:aj:=σ.zipIdx.map fun x=>if x.2=q then x.1 else .dead
 have WU:∀ (l:Nat) o',TA[l]? = some o'->o'.live=true->l=q/\σ[l]? = some o':=fun l o' hl hlv=>by
  simp only[TA,List.getElem?_map,List.getElem?_zipIdx,Option.map_map]at hl;obtain⟨x,hx,qS⟩:=aU.1 hl;simp at qS;split at qS
  ·rename_i e;subst qS;exact⟨e,hx⟩
  ·subst qS;cases hlv
 have agr:TA.length = σ.length:=by simp[TA]
 have ahT:TA[q]? = some o:=by
  simp only[TA,List.getElem?_map,List.getElem?_zipIdx,Option.map_map];rw[hq];simp
 have hRq:Rel g w TA:=by
  refine⟨by rw[agr];exact hR.len,hR.lt,fun l o' ho'=>?_,fun l l' b hl hl'=>?_,fun l b hl=>?_,hR.mu⟩
  ·by_cases hlv:o'.live=true
   ·exact hR.ok l o' (WU l o' ho' hlv).2
   ·cases o'<;>simp[aX.live]at hlv;trivial
  ·obtain⟨o1,h1,h2⟩:=hl;obtain⟨o2,h3,h4⟩:=hl';exact hR.inj l l' b ⟨o1,(WU l o1 h1 h2).2,h2⟩ ⟨o2,(WU l' o2 h3 h4).2,h4⟩
  ·obtain⟨o1,h1,h2⟩:=hl;exact hR.yp l b ⟨o1,(WU l o1 h1 h2).2,h2⟩
 have PL:∀ {x y:AV},View (aaM q o) x y->View TA x y:=fun hxy=>hxy.live (fun l o' hl hlv=>by
  obtain⟨rfl,rfl⟩:=ab3 l o' hl hlv;exact ahT)
 refine((h []).2 (aO.bare I) w vs (Rel.bare hlt ⟨fun b hb=> .inl (hR.mu.1 b hb),hR.mu.2⟩) (hv.1 ▸ hlen) (fun i hi=>?_)).mono ?_
 ·refine(PL (hv.2 i (hv.1 ▸ hi))).vr (g':=aO.bare I) hRq (fun b hb=> .inl hb) (fun b hb=>?_) (hvs i (hv.1 ▸ hi));obtain⟨l,⟨o1,h1,h2⟩,hb⟩:=hb;obtain⟨rfl,_⟩:=WU l o1 h1 h2;exact .inr hb
 rintro e w' ⟨out,g',σ',hR',hE,hO,rfl,rfl⟩;have hfr:∀ b,b<w.heap.size->w'.heap[b]? = w.heap[b]?:=fun b hb=>hE.frame b hb js
 let g2:aO:= { g with gi:=fun b=>I b\/(w.heap.size<=b/\b<w'.heap.size) }
 have hm:lK g w g2 w':=⟨fun b hb=>⟨.inl (.inl hb),hfr b (hR.lt b hb)⟩,Nat.le_refl _,fun _ _=>⟨Nat.le_refl _,fun _=>⟨rfl,rfl⟩⟩⟩
 have v7:∀ (l:Nat) o',(σ.set q .dead)[l]? = some o'->o'.live=true->l≠q/\σ[l]? = some o':=fun l o' hl hlv=>by
  by_cases e:l=q
  ·subst e;rw[List.getElem?_set_self (aN.1 hq).1]at hl;cases hl;cases hlv
  ·rw[aH (Ne.symm e)]at hl;exact⟨e,hl⟩
 have PM:Rel g2 w' (σ.set q .dead):=by
  refine⟨by simp[g2,hR.len],fun b hb=>?_,fun l o' ho'=>?_,fun l l' b hl hl'=>?_,fun l b hl hb hi=>?_,hR.mu.mono hm.gi⟩
  ·rcases hb with hb|hb
   ·exact da (hlt b hb) hE.size
   ·exact hb.2
  ·by_cases hlv:o'.live=true
   ·obtain⟨_,h2⟩:=v7 l o' ho' hlv;have hl:l<g.n:=by rw[<-hR.len];exact(aN.1 h2).1
    exact(hR.ok l o' h2).step hm hl rfl (fun b hb=>hfr b (hR.jA ⟨o',h2,hlv⟩ hb))
   ·cases o'<;>simp[aX.live]at hlv;trivial
  ·obtain⟨o1,h1,h2⟩:=hl;obtain⟨o2,h3,h4⟩:=hl';exact hR.inj l l' b ⟨o1,(v7 l o1 h1 h2).2,h2⟩ ⟨o2,(v7 l' o2 h3 h4).2,h4⟩
  ·obtain⟨o1,h1,h2⟩:=hl;obtain⟨hne,h3⟩:=v7 l o1 h1 h2;rcases hi with(hi|hi)|hi
   ·exact hR.yp l b ⟨o1,h3,h2⟩ hb hi
   ·exact hne (hR.inj l q b ⟨o1,h3,h2⟩ WT hb hi)
   ·have:=hR.jA ⟨o1,h3,h2⟩ hb;omega
 refine⟨.ret r,g2,_,PM,⟨hm,hE.size,hE.os,hE.tape,hE.output,fun b hb _=>hfr b hb,fun b hb hi=>?_,fun b hb ht=>?_⟩,?_,rfl,rfl⟩
 ·rcases hi with(hi|hi)|hi
  ·exact .inl hi
  ·exact .inr ⟨q,WT,hi⟩
  ·omega
 ·obtain⟨l,⟨o1,h1,h2⟩,hb2⟩:=ht;exact⟨l,⟨o1,(v7 l o1 h1 h2).2,h2⟩,hb2⟩
 ·cases e with
  | returned v =>
    refine VR.dn (g:=g') (g':=g2) (fun b hb=>⟨?_,rfl⟩) hO hr;by_cases BC:b<w.heap.size
    ·rcases hE.Cr b BC hb with h3|h3
     ·exact .inl h3
     ·exact absurd h3 js
    ·exact .inr ⟨by omega,hR'.lt b hb⟩
  | panicked c=>exact hO.elim
  | outgrown=>exact hO.elim
end Go.AM
namespace Go.Proofs.YtmbgnaoilncbnaaGreatDoor
open Go.AM
set_option maxRecDepth 4000
def place(at_:Int){n:Nat}(hn:0<n)(hl:n<=26): ∃ K:Nat,K<n/\cR .i64 ((cR .u64 at_).tmod (n:Int))=(K:Int):=by
 have h0:0<=cR .u64 at_:=by rw[T_];omega
 have h1:=Int.tmod_lt_of_pos (cR .u64 at_) (b:=(n:Int)) (by omega);have h2:=Int.tmod_nonneg (n:Int) h0;refine⟨((cR .u64 at_).tmod (n:Int)).toNat,by omega,?_⟩;rw[Eo (by omega) (by omega)];omega
end Go.Proofs.YtmbgnaoilncbnaaGreatDoor
namespace Go.Proofs.YtmbgnaoilncbnaaGreatDoor
open Go.AM
set_option maxRecDepth 4000
mutual
def aj4: Expr->Nat->Bool
 | .mk _ v s l,d=>decide (d≠0) && decide (s.length<=300) && decide (v.s.length<=300) && decide (l.length<=5) && ags l (d-1)
def ags: List Expr->Nat->Bool
 | [],_=>true
 | x::r,d=>aj4 x d && ags r d
end
@[go_sem] def aj5 (sz off n : Nat) (cs : List AV) (K : AV -> Prop) (h : ¬(off = 0 /\ n = sz)) : vI false ⟨true, sz⟩ (.agg cs) off true n (.mk : Tg K) = req (off + n <= sz) (.mk : Tg (K (.agg ((cs.drop off).take n)))) := by
  refine aer _ _ _ _ _ ?_;rw[Bool.eq_false_iff];intro hh;simp at hh;exact h hh
end Go.Proofs.YtmbgnaoilncbnaaGreatDoor
namespace Go.Proofs.YtmbgnaoilncbnaaGreatDoor
open Go.AM
set_option maxRecDepth 4000
end Go.Proofs.YtmbgnaoilncbnaaGreatDoor
namespace Go.Proofs.YtmbgnaoilncbnaaGreatDoor
open Go.AM
set_option maxRecDepth 4000
end Go.Proofs.YtmbgnaoilncbnaaGreatDoor
namespace Go.Proofs.YtmbgnaoilncbnaaGreatDoor
open Go.AM
set_option maxRecDepth 4000
abbrev TK:=Int × aJ × Int
def tk(t:Tok): TK:=(t.kind,t.s,t.n)
def Bs(r:aJ): Prop:=r.head? = some 32
def Lx(B:aJ->Prop)(s:aJ)(ks:List TK): Prop:= ∀ r,B r-> ∀(f pos:Nat) (acc:List Tok),(s++r).length<f-> ∃ f' ts,r.length<f'/\tg f (s++r) pos acc=tg f' r (pos+s.length) (acc++ts)/\ts.map tk=ks
def Lx.nil(B:aJ->Prop): Lx B [] []:=fun r _ f pos acc hf=>⟨f,[],hf,by simp,rfl⟩
def Lx.app{B1 B2:aJ->Prop}{s1 s2:aJ}{k1 k2:List TK}(h1:Lx B1 s1 k1)(h2:Lx B2 s2 k2)(hb:∀ r,B2 r->B1 (s2++r)): Lx B2 (s1++s2) (k1++k2):=by
 intro r hr f pos acc hf;obtain⟨f1,t1,a1,b1,c1⟩:=h1 (s2++r) (hb r hr) f pos acc (by rw[<-List.append_assoc];exact hf);obtain⟨f2,t2,a2,b2,c2⟩:=h2 r hr f1 (pos+s1.length) (acc++t1) a1;refine⟨f2,t1++t2,a2,?_,by rw[List.map_append,c1,c2]⟩;rw[List.append_assoc,b1,b2,List.length_append,List.append_assoc,ep]
def Lx.weak{B B':aJ->Prop}{s:aJ}{ks:List TK}(h:Lx B s ks)(hb:∀ r,B' r->B r): Lx B' s ks:=fun r hr=>h r (hb r hr)
def Lx.sp(B:aJ->Prop): Lx B [32] []:=by
 intro r _ f pos acc hf;obtain⟨f,rfl⟩:∃ k,f=k+1:=⟨f-1,by simp at hf;omega⟩;refine⟨f,[],by simp at hf;omega,?_,rfl⟩;rw[List.singleton_append,wM,if_pos (by decide),List.append_nil];rfl
def Lx.one{B:aJ->Prop}{s:aJ}{k:TK}(hs:s≠[])(h32:(s.getD 0 0).toNat≠32)(h:∀ r,B r->iE (s++r)=⟨k.1,k.2.1,k.2.2,s.length,0⟩): Lx B s [k]:=by
 intro r hr f pos acc hf;have h1:=h r hr;obtain⟨c,s',rfl⟩:∃ c s',s=c::s':=by cases s with|nil=>exact absurd rfl hs|cons c s'=>exact⟨c,s',rfl⟩
 obtain⟨f,rfl⟩:∃ k,f=k+1:=⟨f-1,by simp at hf;omega⟩;refine⟨f,[⟨k.1,k.2.1,k.2.2,pos⟩],by simp at hf;omega,?_,rfl⟩;rw[fx]at h1 ⊢;rw[wM,if_neg (by simpa using h32),h1,if_pos rfl];simp
def Bs.cons{r:aJ}(h:Bs r): ∃ r',r=32::r':=by
 cases r with
 | nil=>cases h
 | cons c r=>cases h;exact⟨r,rfl⟩
def aj6(v:eg): TK:=if v.kind=1 then(2,[],v.n)else if v.kind=2 then(3,v.s,0)else if v.kind=3 then(1,if v.n=1 then mc else kE,0)else (1,nN,0)
def DU(w:Int × List TK)(lvl:Int): List TK:=if w.1<lvl then(4,[40],0)::(w.2++[(4,[41],0)])else w.2
def aj7: TK:=(1,[105,102],0)
def agt: TK:=(1,thenS,0)
def agu: TK:=(1,EZ,0)
def ahU(op:Int): TK:=(lI (cV op),(cV op).sign,0)
def ahV(op:Int)(v:eg)(s:aJ)(ws:List (Int × List TK)): List TK :=
 if op=1 then [aj6 v]else if op=2 then [(1,s,0)]
 else if op=3 then(4,[45],0)::DU (ws.getD 0 default) 6
 else if op=16 then aj7::(DU (ws.getD 0 default) 0++(agt::(DU (ws.getD 1 default) 0++(agu::DU (ws.getD 2 default) 0))))
 else DU (ws.getD 0 default) (if(cV op).level=3 then 4 else(cV op).level)++(ahU op::DU (ws.getD 1 default) ((cV op).level+1))
mutual
def adC: Expr->List TK
 | .mk op v s l=>ahV op v s (agv l)
def agv: List Expr->List (Int × List TK)
 | []=>[]
 | x::r=>(dc x.op,adC x)::agv r
end
def Q4(x:Expr)(lvl:Int): List TK:=DU (dc x.op,adC x) lvl
end Go.Proofs.YtmbgnaoilncbnaaGreatDoor
namespace Go.Proofs.YtmbgnaoilncbnaaGreatDoor
open Go.AM
set_option maxRecDepth 4000
def Fe(T:List Tok): Nat->List TK->Prop
 | _,[]=>True
 | p,k::ks=>(p<T.length/\tk (T.getD p default)=k)/\Fe T (p+1) ks
def Fe.app{T:List Tok}{a b:List TK}: ∀ {p:Nat},Fe T p (a++b)↔Fe T p a/\Fe T (p+a.length) b:=by
 induction a with
 | nil=>intro p;simp[Fe]
 | cons k a ih =>
   intro p;rw[fx];simp only[Fe,ih,List.length_cons];rw[show p+(a.length+1)=p+1+a.length by omega,and_assoc,and_assoc,and_assoc]
def Fe.map(T:List Tok): ∀(p:Nat),p<=T.length->Fe T p ((T.drop p).map tk):=by
 intro p hp
 induction hn:T.length-p generalizing p with
 | zero=>rw[List.drop_eq_nil_of_le (by omega)];trivial
 | succ n ih =>
   have hlt:p<T.length:=by omega
   rw[fJ hlt,bu];refine⟨⟨hlt,?_⟩,ih (p+1) hlt (by omega)⟩;rw[aE,aQ hlt];rfl
def aeP{T:List Tok}{p:Nat}(h:T.length<=p)(l:Int): vu T p false l=none:=by
 unfold vu;rw[dG];intro x _;have:iM T p (lI x) x.sign=false:=by simp only[iM,Bool.and_eq_false_iff,decide_eq_false_iff_not];left;omega
 simp[ew,this]
def U0(T:List Tok)(p lvl:Nat): Prop:= ∀ l:Nat,lvl<=l->vu T p false l=none
def U0.end{T:List Tok}{p:Nat}(h:T.length<=p)(lvl:Nat): U0 T p lvl:=fun l _=>aeP h l
def Rd(T:List Tok)(x:Expr)(p q lvl:Nat): Prop:= ∀ f,8*(q-p)+(8-lvl)<=f->bI T f none lvl p=⟨x,q,false⟩
structure alq (x:Expr):Prop where
 pos:1<=(adC x).length
 a:∀ (T:List Tok) (p lvl:Nat) (i:Int),i=lvl->lvl<=7->Fe T p (Q4 x i)->U0 T (p+(Q4 x i).length) lvl->Rd T x p (p+(Q4 x i).length) lvl
 c:∀ (T:List Tok) (p L:Nat) (i:Int),i=L->1<=L->L<=5->L≠3->Fe T p (Q4 x i)->U0 T (p+(Q4 x i).length) (L+1)-> ∀ f,8*(Q4 x i).length+(8-L)<=f-> ∃ f',f<=f'+1+(Q4 x i).length/\bI T f none L p=bI T f' (some x) L (p+(Q4 x i).length)
 f:∀ (T:List Tok) (p lvl:Nat),1<=lvl->Fe T p (Q4 x lvl)->iM T p 1 [105,102]=false
end Go.Proofs.YtmbgnaoilncbnaaGreatDoor
namespace Go.Proofs.YtmbgnaoilncbnaaGreatDoor
open Go.AM
set_option maxRecDepth 4000
def Fe.le{T:List Tok}{ks:List TK}: ∀ {p:Nat},Fe T p ks->p<=T.length->p+ks.length<=T.length:=by
 induction ks with
 | nil=>intro p _ hp;exact hp
 | cons k ks ih=>intro p h hp;rw[List.length_cons];have:=ih h.2 h.1.1;omega
end Go.Proofs.YtmbgnaoilncbnaaGreatDoor
namespace Go.Proofs.YtmbgnaoilncbnaaGreatDoor
open Go.AM
set_option maxRecDepth 4000
end Go.Proofs.YtmbgnaoilncbnaaGreatDoor
namespace Go.Proofs.YtmbgnaoilncbnaaGreatDoor
open Go.AM
set_option maxRecDepth 4000
def Q5{t:Table}{r:dO}(h:(lJ t r).2.2=0): r.cells.length=t.ins.length/\r.outs.length=t.outs.length/\(∀ j,j<r.cells.length->(o8 t r j).2=0)/\(∀ j,j<r.outs.length->(mj t r j).2=0)/\lJ t r=(⟨mo t r r.cells.length,r9 t r r.outs.length⟩,0,0):=by
 by_cases hb:r.cells.length≠t.ins.length\/r.outs.length≠t.outs.length
 ·rw[LJ hb]at h;exact absurd h (by decide)
 have h1:r.cells.length=t.ins.length:=by omega
 have h2:r.outs.length=t.outs.length:=by omega
 have hc:∀ j,j<r.cells.length->(o8 t r j).2=0:=by
  cases hq:(List.range r.cells.length).find? (fun k=>(o8 t r k).2 != 0)with
  | some k =>
    exfalso;unfold lJ at h;rw[if_neg hb,hq]at h;have:=eX hq;simp at this;exact this h
  | none =>
    intro j hj;have:=dG.1 hq j (gu.2 hj);simpa using this
 have ho:∀ j,j<r.outs.length->(mj t r j).2=0:=by
  cases hq:(List.range r.outs.length).find? (fun k=>(mj t r k).2 != 0)with
  | some k =>
    exfalso;unfold lJ at h;rw[if_neg hb,oR (fun j hj=>by simp[hc j hj])]at h;dsimp only at h;rw[hq]at h;have:=eX hq;simp at this;exact this h
  | none =>
    intro j hj;have:=dG.1 hq j (gu.2 hj);simpa using this
 exact⟨h1,h2,hc,ho,OX h1 h2 hc ho⟩
def NN{t:Table}(h:(iK t).2.2.2=0): (eE t).2.2.2=0/\(∀ j,j<(eE t).1.lines.length->(n6 t j).2.2=0)/\iK t=({ t with rules:=vX t (eE t).1.lines.length },0,0,0):=by
 by_cases he:(eE t).2.2.2=0
 ·have hr : ∀ j, j < (eE t).1.lines.length -> (n6 t j).2.2 = 0 := by
   cases hq:(List.range (eE t).1.lines.length).find? (fun k=>(n6 t k).2.2 != 0)with
   | some k =>
     exfalso;unfold iK at h;rw[if_neg (by omega),hq]at h;have:=eX hq;simp at this;exact this h
   | none =>
     intro j hj;have:=dG.1 hq j (gu.2 hj);simpa using this
  exact⟨he,hr,LN he hr⟩
 ·rw[zG he]at h;exact absurd h he
end Go.Proofs.YtmbgnaoilncbnaaGreatDoor
namespace Go.Proofs.YtmbgnaoilncbnaaGreatDoor
open Go.AM
set_option maxRecDepth 4000
def pE(n:Int): Nat:=if n<0 then(2*(-1-n)+1).toNat else(2*n).toNat
def uQ(c:Nat): Int:=if c % 2=1 then -1-(c / 2:Nat)else (c / 2:Nat)
def qN: Nat->Nat->aJ
 | 0,c=>[UInt8.ofNat c]
 | f+1,c=>if c<128 then [UInt8.ofNat c]else UInt8.ofNat (128+c % 128)::qN f (c / 128)
def cG(n:Int): aJ:=qN 9 (pE n)
def pY(i c:Nat): aJ->Int × aJ × Int
 | []=>(0,[],3)
 | b :: r => if (0 < i /\ b.toNat = 0) \/ (i = 9 /\ 1 < b.toNat) then (0, [], 4)
   else if b.toNat<128 then(uQ (c+b.toNat % 128*128 ^ i),r,0)
   else pY (i+1) (c+b.toNat % 128*128 ^ i) r
def takeN(s:aJ): Int × aJ × Int:=pY 0 0 s
def bC(s:aJ): aJ:=cG s.length++s
def cj(s:aJ)(most:Int): aJ × aJ × Int :=
 if(takeN s).2.2≠0 then([],[],(takeN s).2.2)else if(takeN s).1<0 then([],[],4)else if(takeN s).1>most then([],[],5)else if(takeN s).1>(takeN s).2.1.length then([],[],3)
 else((takeN s).2.1.take (takeN s).1.toNat,(takeN s).2.1.drop (takeN s).1.toNat,0)
def aaN(n:Int): uQ (pE n)=n:=by
 unfold uQ pE;split<;>split<;>omega
def O1{n:Int}(h : -9223372036854775808<=n)(h':n<=9223372036854775807): pE n<18446744073709551616:=by
 unfold pE;split<;>omega
def u8(n:Nat)(h:n<256): (UInt8.ofNat n).toNat=n:=by simp[UInt8.toNat_ofNat'];omega
def adD(r:aJ): ∀(k i c:Nat),i+k=9->c*128 ^ i<18446744073709551616->(0<i->0<c)-> ∀ d,pY i d (qN k c++r)=(uQ (d+c*128 ^ i),r,0):=by
 intro k
 induction k with
 | zero =>
   intro i c h1 h2 h3 d;obtain rfl:i=9:=by omega
   have e:(128:Nat) ^ 9=9223372036854775808:=by decide
   rw[e]at h2;rw[qN,List.singleton_append,pY,u8 c (by omega),if_neg (by omega),if_pos (by omega),fZ (by omega)]
 | succ k ih =>
   intro i c h1 h2 h3 d;rw[qN];by_cases hc:c<128
   ·rw[if_pos hc,List.singleton_append,pY,u8 c (by omega),if_neg (by omega),if_pos hc,fZ hc]
   ·rw[if_neg hc,fx,pY,u8 _ (by omega),if_neg (by omega),if_neg (by omega)]
    have e2:c / 128*128 ^ (i+1)=128*(c / 128)*128 ^ i:=by
     rw[fL,eP (128 ^ i) 128,<-Nat.mul_assoc,eP (c / 128) 128]
    have e:(128+c % 128) % 128=c % 128:=by omega
    rw[ih (i+1) (c / 128) (by omega) (Nat.lt_of_le_of_lt (by rw[e2];exact bG _ (by omega)) h2) (by omega),e,e2,ep,← dK];rw[show c % 128+128*(c / 128)=c by omega]
def jZ{n:Int}(h : -9223372036854775808<=n/\n<=9223372036854775807)(r:aJ): takeN (cG n++r)=(n,r,0):=by
 have:=O1 h.1 h.2;unfold takeN cG;rw[adD r 9 0 (pE n) (by omega) (by omega) (by omega) 0];simp[aaN]
def ur{s:aJ}{most:Int}(h:s.length<=most)(h':(s.length:Int)<=9223372036854775807)(r:aJ): cj (bC s++r) most=(s,r,0):=by
 unfold cj bC;rw[List.append_assoc,jZ ⟨by omega,h'⟩];dsimp only;rw[if_neg (by omega),if_neg (by omega),if_neg (by omega),if_neg (by rw[List.length_append];omega)];simp
def aeQ: ∀(s:aJ) (i c:Nat),(pY i c s).2.1.length<=s.length/\((pY i c s).2.2=0->(pY i c s).2.1.length<s.length)/\((pY i c s).2.2≠0->(pY i c s).1=0/\(pY i c s).2.1=[]):=by
 intro s
 induction s with
 | nil=>intro i c;simp[pY]
 | cons b r ih =>
   intro i c;rw[pY];split
   ·simp
   ·split
    ·simp
    ·have:=ih (i+1) (c+b.toNat % 128*128 ^ i);simp only[List.length_cons];refine⟨by omega,fun h=>?_,this.2.2⟩;have:=this.2.1 h;omega
def adE{c:Nat}(h:c<18446744073709551616): -9223372036854775808<=uQ c/\uQ c<=9223372036854775807:=by
 unfold uQ;split<;>omega
def aeR: ∀(s:aJ) (i c:Nat),i<=9->c<128 ^ i-> -9223372036854775808<=(pY i c s).1/\(pY i c s).1<=9223372036854775807:=by
 intro s
 induction s with
 | nil=>intro i c _ _;simp[pY]
 | cons b r ih =>
   intro i c hi hc;rw[pY];split
   ·simp
   ·rename_i h1;have hb:b.toNat<256:=b.toNat_lt;split
    ·rename_i h2;apply adE;by_cases h9:i=9
     ·subst h9;have e:(128:Nat) ^ 9=9223372036854775808:=by decide
      rw[e]at hc ⊢;omega
     ·have e:(128:Nat) ^ (i+1)<=128 ^ 9:=iy (by decide) (by omega);rw[fL]at e;have e2:(128:Nat) ^ 9=9223372036854775808:=by decide
      have:b.toNat % 128*128 ^ i<=127*128 ^ i:=bG _ (by omega);omega
    ·rename_i h2;have h9:i≠9:=fun e=>by subst e;omega
     apply ih _ _ (by omega);rw[fL];have:b.toNat % 128*128 ^ i<=127*128 ^ i:=bG _ (by omega);omega
def j0(s:aJ): -9223372036854775808<=(takeN s).1/\(takeN s).1<=9223372036854775807:=aeR s 0 0 (by omega) (by decide)
def dZ(s:aJ): (takeN s).2.1.length<=s.length/\((takeN s).2.2=0->(takeN s).2.1.length<s.length)/\((takeN s).2.2≠0->(takeN s).1=0/\(takeN s).2.1=[]):=aeQ s 0 0
def jh(s:aJ)(m:Int): (cj s m).1.length<=s.length/\(cj s m).2.1.length<=s.length/\((cj s m).2.2=0->(cj s m).2.1.length<s.length/\(cj s m).1.length<=m)/\((cj s m).2.2≠0->(cj s m).1=[]/\(cj s m).2.1=[]):=by
 have:=dZ s;unfold cj;repeat' split
 all_goals first
  |(refine⟨by simp,by simp,fun h=>?_,fun _=>⟨rfl,rfl⟩⟩;dsimp only at h;omega)
  |(dsimp only;rw[List.length_take,List.length_drop];refine⟨by omega,by omega,fun _=>?_,fun h=>absurd rfl h⟩;have:=this.2.1 (by omega);omega)
end Go.Proofs.YtmbgnaoilncbnaaGreatDoor
namespace Go.Proofs.YtmbgnaoilncbnaaGreatDoor
open Go.AM
set_option maxRecDepth 4000
def fW(v:eg): aJ:=cG v.kind++(if v.kind=2 then bC v.s else if v.kind=1\/v.kind=3 then cG v.n else [])
def JA(v:eg)(r:aJ): eg × aJ × Int:=if bL v then(v,r,0)else (v0,[],4)
def kI(s:aJ): eg × aJ × Int :=
 if(takeN s).2.2≠0 then(v0,[],(takeN s).2.2)
 else if(takeN s).1=0 then(v0,(takeN s).2.1,0)
 else if(takeN s).1=1\/(takeN s).1=3 then
  if(takeN (takeN s).2.1).2.2≠0 then(v0,[],(takeN (takeN s).2.1).2.2)else JA ⟨(takeN s).1,(takeN (takeN s).2.1).1,[]⟩ (takeN (takeN s).2.1).2.1
 else if(takeN s).1=2 then
  if(cj (takeN s).2.1 40).2.2≠0 then(v0,[],(cj (takeN s).2.1 40).2.2)else JA ⟨2,0,(cj (takeN s).2.1 40).1⟩ (cj (takeN s).2.1 40).2.1
 else(v0,[],4)
def mY(l:List eg): aJ:=cG l.length++l.flatMap fW
def jq: Nat->List eg->aJ->List eg × aJ × Int
 | 0,out,s=>(out,s,0)
 | k+1,out,s=>if(kI s).2.2≠0 then([],[],(kI s).2.2)else jq k (out++[(kI s).1]) (kI s).2.1
def ig(s:aJ)(most:Int): List eg × aJ × Int :=
 if(takeN s).2.2≠0 then([],[],(takeN s).2.2)else if(takeN s).1<0 then([],[],4)else if(takeN s).1>most then([],[],5)
 else jq (takeN s).1.toNat [] (takeN s).2.1
def vz{v:eg}(h:bL v=true): v.kind=0/\v=v0\/v.kind=1/\v.s=[]\/v.kind=2/\v.n=0/\v.s.length<=40\/v.kind=3/\v.s=[]:=by
 obtain⟨k,n,s⟩:=v;unfold bL at h;dsimp only at h ⊢;split at h
 ·left;simp at h;simp[v0, *]
 split at h
 ·right;left;simp at h;simp[*]
 split at h
 ·right;right;left;simp[kX]at h;simp[*]
 split at h
 ·right;right;right;simp at h;simp[*]
 ·cases h
def X_{v:eg}(h:bL v=true)(hn : -9223372036854775808<=v.n/\v.n<=9223372036854775807)(r:aJ): kI (fW v++r)=(v,r,0):=by
 have hk:=vz h;have hT:∀ x,takeN (cG v.kind++x)=(v.kind,x,0):=fun x=>jZ (by omega) x;unfold kI fW;rw[List.append_assoc,hT];dsimp only;rw[if_neg (by simp)];rcases hk with⟨hk,hv⟩|⟨hk,hs⟩|⟨hk,h0,hs⟩|⟨hk,hs⟩
 ·rw[if_pos hk,if_neg (by omega),if_neg (by omega),hv];rfl
 ·have e:(if v.kind=2 then bC v.s else if v.kind=1\/v.kind=3 then cG v.n else [])=cG v.n:=by rw[if_neg (by omega),if_pos (by omega)]
  rw[if_neg (by omega),if_pos (by omega),e,jZ hn];dsimp only;rw[if_neg (by simp),<-hs];unfold JA;rw[if_pos h]
 ·rw[if_neg (by omega),if_neg (by omega),if_pos hk,if_pos hk,ur (by omega) (by omega)];dsimp only;rw[if_neg (by simp)];unfold JA;rw[<-hk,<-h0,if_pos h]
 ·have e:(if v.kind=2 then bC v.s else if v.kind=1\/v.kind=3 then cG v.n else [])=cG v.n:=by rw[if_neg (by omega),if_pos (by omega)]
  rw[if_neg (by omega),if_pos (by omega),e,jZ hn];dsimp only;rw[if_neg (by simp),<-hs];unfold JA;rw[if_pos h]
def ab4(v:eg)(r:aJ)(hv : -9223372036854775808<=v.n/\v.n<=9223372036854775807): (JA v r).2.1.length<=r.length/\bL (JA v r).1=true/\(-9223372036854775808<=(JA v r).1.n/\(JA v r).1.n<=9223372036854775807):=by
 unfold JA;split
 ·rename_i h;exact⟨by simp,h,hv⟩
 ·exact⟨by simp,by decide,by decide⟩
def Q6: bL v0=true/\(-9223372036854775808<=v0.n/\v0.n<=9223372036854775807):=by decide
def O2(s:aJ): (kI s).2.1.length<=s.length/\((kI s).2.2=0->(kI s).2.1.length<s.length)/\bL (kI s).1=true/\(-9223372036854775808<=(kI s).1.n/\(kI s).1.n<=9223372036854775807):=by
 have h1:=dZ s;have h2:=dZ (takeN s).2.1;have h3:=jh (takeN s).2.1 40;unfold kI;split
 ·exact⟨by simp,fun h=>absurd h (by assumption),Q6⟩
 have h4:=h1.2.1 (by omega);split
 ·exact⟨by dsimp only;omega,fun _=>h4,Q6⟩
 split
 ·split
  ·exact⟨by simp,fun h=>absurd h (by assumption),Q6⟩
  ·have:=ab4 ⟨(takeN s).1,(takeN (takeN s).2.1).1,[]⟩ (takeN (takeN s).2.1).2.1 (j0 _);exact⟨by omega,fun _=>by omega,this.2⟩
 split
 ·split
  ·exact⟨by simp,fun h=>absurd h (by assumption),Q6⟩
  ·have:=ab4 ⟨2,0,(cj (takeN s).2.1 40).1⟩ (cj (takeN s).2.1 40).2.1 ⟨by simp,by simp⟩;exact⟨by omega,fun _=>by omega,this.2⟩
 ·exact⟨by simp,fun h=>absurd h (by decide),Q6⟩
def WV(r:aJ): ∀(l out:List eg),(∀ v ∈ l,bL v=true/\(-9223372036854775808<=v.n/\v.n<=9223372036854775807))->jq l.length out (l.flatMap fW++r)=(out++l,r,0):=by
 intro l
 induction l with
 | nil=>intro out _;simp[jq]
 | cons v l ih =>
   intro out h;have hv:=h v (by simp);rw[List.length_cons,jq,de,List.append_assoc,X_ hv.1 hv.2];dsimp only;rw[if_neg (by omega),ih _ (fun w hw=>h w (by simp[hw]))];simp
def TC{l:List eg}{most:Int}(h:∀ v ∈ l,bL v=true/\(-9223372036854775808<=v.n/\v.n<=9223372036854775807))(hl:l.length<=most)(pX:l.length<=2 ^ 60)(r:aJ): ig (mY l++r) most=(l,r,0):=by
 unfold ig mY;rw[List.append_assoc,jZ ⟨by omega,by omega⟩];dsimp only;rw[if_neg (by omega),if_neg (by omega),if_neg (by omega),er,WV r l [] h];simp
def ab5 : ∀ (k : Nat) (out : List eg) (s : aJ), (∀ v ∈ out, bL v = true /\ (-9223372036854775808 <= v.n /\ v.n <= 9223372036854775807)) ->
    (jq k out s).2.1.length<=s.length/\(∀ v ∈ (jq k out s).1,bL v=true/\(-9223372036854775808<=v.n/\v.n<=9223372036854775807))/\(jq k out s).1.length<=out.length+s.length/\((jq k out s).2.2≠0->(jq k out s).1=[]/\(jq k out s).2.1=[])/\(jq k out s).1.length<=out.length+k:=by
 intro k
 induction k with
 | zero=>intro out s h;exact⟨by simp[jq],h,by simp[jq],fun h=>absurd rfl h,by simp[jq]⟩
 | succ k ih =>
   intro out s h;have hv:=O2 s;rw[jq];split
   ·exact⟨by simp,by simp,by simp,fun _=>⟨rfl,rfl⟩,by simp⟩
   ·rename_i h1;have h2:=hv.2.1 (by omega)
    have:=ih (out++[(kI s).1]) (kI s).2.1 (fun w hw=>by
     rcases List.mem_append.1 hw with hw|hw
     ·exact h w hw
     ·rw[List.mem_singleton.1 hw];exact hv.2.2)
    rw[List.length_append,List.length_singleton]at this;exact⟨by omega,this.2.1,by omega,this.2.2.2.1,by omega⟩
def O3(s:aJ)(most:Int): (ig s most).2.1.length<=s.length/\(∀ v ∈ (ig s most).1,bL v=true/\(-9223372036854775808<=v.n/\v.n<=9223372036854775807))/\(ig s most).1.length<=s.length/\((ig s most).2.2≠0->(ig s most).1=[]/\(ig s most).2.1=[])/\(0<=most->(ig s most).1.length<=most):=by
 have h1:=dZ s;unfold ig;repeat' split
 ·exact⟨by simp,by simp,by simp,fun _=>⟨rfl,rfl⟩,by simp⟩
 ·exact⟨by simp,by simp,by simp,fun _=>⟨rfl,rfl⟩,by simp⟩
 ·exact⟨by simp,by simp,by simp,fun _=>⟨rfl,rfl⟩,by simp⟩
 ·have:=ab5 (takeN s).1.toNat [] (takeN s).2.1 (by simp);rw[List.length_nil]at this;exact⟨by omega,this.2.1,by omega,this.2.2.2.1,fun _=>by omega⟩
end Go.Proofs.YtmbgnaoilncbnaaGreatDoor
