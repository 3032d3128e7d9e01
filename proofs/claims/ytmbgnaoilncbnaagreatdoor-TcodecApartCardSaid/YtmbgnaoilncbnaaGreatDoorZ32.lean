/- Part of a proof: see Root. -/
import Derived.Test.YtmbgnaoilncbnaaGreatDoorZ31
set_option linter.unnecessarySimpa false
set_option linter.unusedSimpArgs false
set_option linter.unusedVariables false
namespace Go.Proofs.YtmbgnaoilncbnaaGreatDoor
open Go.AM
set_option maxRecDepth 4000
def eT(T:List Tok): Nat→List TK→Prop
 | _,[]=>True
 | p,k::ks=>(p<T.length∧tk (T.getD p default)=k)∧eT T (p+1) ks
theorem eT.app{T:List Tok}{a b:List TK}: ∀ {p:Nat},eT T p (a++b)↔eT T p a∧eT T (p+a.length) b:=by
 induction a with
 | nil=>intro p;simp[eT]
 | cons k a ih =>
   intro p
   rw[List.cons_append]
   simp only[eT,ih,List.length_cons]
   rw[show p+(a.length+1)=p+1+a.length by omega,and_assoc,and_assoc,and_assoc]
theorem eT.map(T:List Tok): ∀(p:Nat),p≤T.length→eT T p ((T.drop p).map tk):=by
 intro p hp
 induction hn:T.length-p generalizing p with
 | zero=>rw[List.drop_eq_nil_of_le (by omega)];trivial
 | succ n ih =>
   have hlt:p<T.length:=by omega
   rw[List.drop_eq_getElem_cons hlt,List.map_cons]
   refine⟨⟨hlt,?_⟩,ih (p+1) hlt (by omega)⟩
   rw[List.getD_eq_getElem?_getD,List.getElem?_eq_getElem hlt];rfl
theorem di{T:List Tok}{p:Nat}{t:TK}{ks:List TK}(h:eT T p (t::ks))(k:Int)(s:aH): dO T p k s=(decide (t.1=k) && decide (t.2.1=s)):=by
 obtain⟨⟨h1,h2⟩,_⟩:=h
 unfold dO
 rw[← h2]
 simp[h1,tk]
theorem U3{T:List Tok}{p:Nat}{t:TK}{ks:List TK}(h:eT T p (t::ks)): (T.getD p default).kind=t.1∧(T.getD p default).s=t.2.1∧(T.getD p default).n=t.2.2:=by
 obtain⟨⟨h1,h2⟩,_⟩:=h
 rw[← h2];exact⟨rfl,rfl,rfl⟩
def SB(t:TK)(l:Int): Option yu:=dL.find? fun x=>x.level==l && (decide (t.1=gy x) && decide (t.2.1=x.sign))
theorem Ia{T:List Tok}{p:Nat}{t:TK}{ks:List TK}(h:eT T p (t::ks))(l:Int): nu T p false l=SB t l:=by
 unfold nu SB cn
 congr 1
 funext x
 rw[di h];simp
theorem aa0{T:List Tok}{p:Nat}(h:T.length≤p)(l:Int): nu T p false l=none:=by
 unfold nu
 rw[List.find?_eq_none]
 intro x _
 have:dO T p (gy x) x.sign=false:=by simp only[dO,Bool.and_eq_false_iff,decide_eq_false_iff_not];left;omega
 simp[cn,this]
def fG(T:List Tok)(p lvl:Nat): Prop:= ∀ l:Nat,lvl≤l→nu T p false l=none
theorem fG.up{T:List Tok}{p a b:Nat}(h:fG T p a)(hab:a≤b): fG T p b:=fun l hl=>h l (Nat.le_trans hab hl)
def quiet(t:TK): Prop:= ∀ l:Int,SB t l=none
theorem fG.of{T:List Tok}{p:Nat}{t:TK}{ks:List TK}(h:eT T p (t::ks))(hq:quiet t)(lvl:Nat): fG T p lvl:=fun l _=>by rw[Ia h];exact hq l
theorem fG.end{T:List Tok}{p:Nat}(h:T.length≤p)(lvl:Nat): fG T p lvl:=fun l _=>aa0 h l
theorem quiet_of{t:TK}(h:∀ b ∈ dL,¬ (t.1=gy b∧t.2.1=b.sign)): quiet t:=by
 intro l
 unfold SB
 rw[List.find?_eq_none]
 intro x hx
 have:=h x hx
 simp only[Bool.and_eq_true,decide_eq_true_eq,beq_iff_eq]
 exact fun hh=>this hh.2
theorem JP: quiet (4,[41],0):=quiet_of (by decide)
theorem Wu: quiet Dn:=quiet_of (by decide)
theorem Wv: quiet Dp:=quiet_of (by decide)
theorem Ww: quiet (4,[46,46],0):=quiet_of (by decide)
theorem T3: quiet (4,[44],0):=quiet_of (by decide)
theorem Zy: quiet (4,[91],0):=quiet_of (by decide)
theorem Zz: quiet (4,[93],0):=quiet_of (by decide)
theorem ZA{b:yu}(hb:b ∈ dL)(n:Int)(l:Int): SB (gy b,b.sign,n) l=if b.level=l then some b else none:=by
 simp only[dL,List.mem_cons,List.not_mem_nil,or_false]at hb
 rcases hb with rfl|rfl|rfl|rfl|rfl|rfl|rfl|rfl|rfl|rfl|rfl|rfl<;>simp[SB,dL,gy,List.find?]<;>split<;>simp_all
def Rd(T:List Tok)(x:Expr)(p q lvl:Nat): Prop:= ∀ f,8*(q-p)+(8-lvl)≤f→bh T f none lvl p=⟨x,q,false⟩
theorem rd_some{T:List Tok}{f:Nat}{x:Expr}{lvl q:Nat}(hf:1≤f)(h:nu T q false lvl=none): bh T f (some x) lvl q=⟨x,q,false⟩:=by
 obtain⟨f,rfl⟩:∃ k,f=k+1:=⟨f-1,by omega⟩
 simp only[bh,h]
theorem Rd.down{T:List Tok}{x:Expr}{p q l:Nat}(hpq:p<q)(h:Rd T x p q (l+1))(hl:l+1≤7)(hs:fG T q l)(h0:l=0→dO T p 1 [105,102]=false)(h6:l=6→dO T p 4 [45]=false): Rd T x p q l:=by
 intro f hf
 obtain⟨f,rfl⟩:∃ k,f=k+1:=⟨f-1,by omega⟩
 by_cases hl0:l=0
 ·subst hl0
  simp only[bh,if_true,h0 rfl,Bool.false_eq_true,if_false]
  exact h f (by omega)
 by_cases RP:l=6
 ·subst RP
  have:=h (f+1) (by omega)
  simp only[bh]at this ⊢
  rw[if_neg (by omega),if_neg (by rw[h6 rfl];simp),if_pos (by omega)]
  rw[if_neg (by omega),if_neg (by omega),if_pos (by omega)]at this
  exact this
 ·have h1:=h f (by omega)
  simp only[bh]
  rw[if_neg hl0,if_neg (by omega),if_neg (by omega),h1]
  dsimp only
  rw[if_neg (by simp)]
  exact rd_some (by omega) (hs l (Nat.le_refl _))
theorem Rd.descend{T:List Tok}{x:Expr}{p q b:Nat}(hpq:p<q)(h:Rd T x p q b)(hb:b≤7)(h0:b=0∨dO T p 1 [105,102]=false)(h6:b≤6∨dO T p 4 [45]=false): ∀ lvl,lvl≤b→fG T q lvl→Rd T x p q lvl:=by
 intro lvl hl
 induction hn:b-lvl generalizing lvl with
 | zero=>intro _;rw[show lvl=b by omega];exact h
 | succ n ih =>
   intro hs
   refine(ih (lvl+1) (by omega) (by omega) (hs.up (by omega))).down hpq (by omega) hs (fun e=>?_) (fun e=>?_)
   ·rcases h0 with h0|h0
    ·omega
    ·exact h0
   ·rcases h6 with h6|h6
    ·omega
    ·exact h6
theorem Rd.paren{T:List Tok}{x:Expr}{p:Nat}{ks:List TK}(bB:eT T p ((4,[40],0)::(ks++[(4,[41],0)])))(h:Rd T x (p+1) (p+1+ks.length) 0): Rd T x p (p+(ks.length+2)) 7:=by
 intro f hf
 obtain⟨f,rfl⟩:∃ k,f=k+1:=⟨f-1,by omega⟩
 have h1:=h f (by omega)
 have e1:dO T p 4 [40]=true:=by rw[di bB];rfl
 have hc:eT T (p+1+ks.length) [(4,[41],0)]:=(eT.app.1 bB.2).2
 have e2:cn T (p+1+ks.length) false 4 [41]=true:=by unfold cn;rw[di hc];rfl
 simp only[bh]
 rw[if_neg (by omega),if_neg (by omega),if_pos (by omega)]
 unfold fE
 rw[e1,if_pos rfl]
 dsimp only
 rw[h1]
 unfold dU kX
 dsimp only
 rw[e2,if_pos rfl]
 simp;omega
theorem wK{n lvl:Int}(h:n<lvl)(ks:List TK): ja (n,ks) lvl=(4,[40],0)::(ks++[(4,[41],0)]):=by unfold ja;exact if_pos h
theorem oE{n lvl:Int}(h:¬ n<lvl)(ks:List TK): ja (n,ks) lvl=ks:=by unfold ja;exact if_neg h
structure kA (x:Expr):Prop where
 pos:1≤(cG x).length
 a:∀ (T:List Tok) (p lvl:Nat) (i:Int),i=lvl→lvl≤7→eT T p (bU x i)→fG T (p+(bU x i).length) lvl→Rd T x p (p+(bU x i).length) lvl
 c:∀ (T:List Tok) (p L:Nat) (i:Int),i=L→1≤L→L≤5→L≠3→eT T p (bU x i)→fG T (p+(bU x i).length) (L+1)→ ∀ f,8*(bU x i).length+(8-L)≤f→ ∃ f',f≤f'+1+(bU x i).length∧bh T f none L p=bh T f' (some x) L (p+(bU x i).length)
 f:∀ (T:List Tok) (p lvl:Nat),1≤lvl→eT T p (bU x lvl)→dO T p 1 [105,102]=false
theorem za{x:Expr}(h:1≤(cG x).length)(lvl:Int): 1≤(bU x lvl).length:=by unfold bU ja;split<;>simp;exact h
theorem kA.of{x:Expr}(b:Nat)(hb:b≤7)(hlv:bR x.op=b)(hpos:1≤(cG x).length)
 (bare:∀ (T:List Tok) (p:Nat),eT T p (cG x)→fG T (p+(cG x).length) b→Rd T x p (p+(cG x).length) b)
 (hc:∀ (T:List Tok) (p L:Nat),1≤L→L≤5→L≠3→b=L→eT T p (cG x)→fG T (p+(cG x).length) (L+1)→ ∀ f,8*(cG x).length+(8-L)≤f→ ∃ f',f≤f'+1+(cG x).length∧bh T f none L p=bh T f' (some x) L (p+(cG x).length))
 (hif:1≤b→ ∀(T:List Tok) (p:Nat),eT T p (cG x)→dO T p 1 [105,102]=false) (hneg:b=7→ ∀(T:List Tok) (p:Nat),eT T p (cG x)→dO T p 4 [45]=false):kA x:=by
 have a:∀ (T:List Tok) (p lvl:Nat) (i:Int),i=lvl→lvl≤7→eT T p (bU x i)→fG T (p+(bU x i).length) lvl→Rd T x p (p+(bU x i).length) lvl:=by
  rintro T p lvl i rfl hl bB hs
  have hbase:∀ (p lvl:Nat),lvl≤b→eT T p (cG x)→fG T (p+(cG x).length) lvl→Rd T x p (p+(cG x).length) lvl:=fun p lvl hlb bB hs=>by
   refine(bare T p bB (hs.up hlb)).descend (by omega) hb ?_ ?_ lvl hlb hs
   ·by_cases h1:1≤b
    ·exact .inr (hif h1 T p bB)
    ·exact .inl (by omega)
   ·by_cases h7:b=7
    ·exact .inr (hneg h7 T p bB)
    ·exact .inl (by omega)
  unfold bU at bB hs ⊢
  rw[hlv]at bB hs ⊢
  by_cases hlb:lvl≤b
  ·rw[oE (by omega)]at bB hs ⊢
   exact hbase p lvl hlb bB hs
  ·rw[wK (by omega)]at bB hs ⊢
   have hin:=eT.app.1 bB.2
   have h0:Rd T x (p+1) (p+1+(cG x).length) 0:=hbase (p+1) 0 (Nat.zero_le _) hin.1 (fG.of hin.2 JP 0)
   have h7:=Rd.paren bB h0
   have hlen:((4,[40],0)::(cG x++[(4,[41],0)]):List TK).length=(cG x).length+2:=by simp
   rw[hlen]at hs ⊢
   exact h7.descend (by omega) (Nat.le_refl _) (.inr (by rw[di bB];decide)) (.inr (by rw[di bB];decide)) lvl hl hs
 refine⟨hpos,a,?_,?_⟩
 ·rintro T p L i rfl h1 h5 h3 bB hs f hf
  by_cases xg:b=L
  ·unfold bU at bB hs hf ⊢
   rw[hlv,xg,oE (by omega)]at bB hs hf ⊢
   exact hc T p L h1 h5 h3 xg bB hs f hf
  ·have hw : bU x (L : Int) = bU x ((L + 1 : Nat) : Int) := by
    unfold bU ja
    rw[hlv]
    dsimp only
    by_cases h:(b:Int)<L
    ·rw[if_pos h,if_pos (by omega)]
    ·rw[if_neg h,if_neg (by omega)]
   have:=a T p (L+1) _ rfl (by omega) (hw ▸ bB) (hw ▸ hs)
   rw[← hw]at this
   obtain⟨f,rfl⟩:∃ k,f=k+1:=⟨f-1,by omega⟩
   have h2:=this f (by omega)
   refine⟨f,by omega,?_⟩
   simp only[bh]
   rw[if_neg (by omega),if_neg (by omega),if_neg (by omega),h2]
   simp
 ·intro T p lvl hl bB
  unfold bU at bB
  rw[hlv]at bB
  by_cases hlb:(b:Int)<lvl
  ·rw[wK hlb]at bB
   rw[di bB];decide
  ·rw[oE hlb]at bB
   exact hif (by omega) T p bB
theorem Ib{v:dy}(hr:bS v=true)(h1:v.kind≠1)(h2:v.kind≠2): sP v=(1,(sP v).2.1,0)∧mJ (sP v).2.1=some v∧(sP v).2.1≠[105,102]:=by
 obtain⟨k,n,s⟩:=v
 dsimp only at h1 h2
 unfold bS at hr
 dsimp only at hr
 unfold sP
 dsimp only
 rw[if_neg h1,if_neg h2]at hr ⊢
 by_cases h0:k=0
 ·rw[if_pos h0]at hr
  simp only[Bool.and_eq_true,decide_eq_true_eq]at hr
  subst h0
  obtain⟨rfl,rfl⟩:=hr
  rw[if_neg (by decide)]
  exact⟨rfl,rfl,by decide⟩
 ·rw[if_neg h0]at hr
  split at hr
  ·rename_i h3
   simp only[Bool.and_eq_true,Bool.or_eq_true,decide_eq_true_eq]at hr
   obtain⟨rfl,hr⟩:=hr
   subst h3
   rw[if_pos rfl]
   rcases hr with rfl|rfl
   ·exact⟨rfl,rfl,by decide⟩
   ·exact⟨rfl,rfl,by decide⟩
  ·cases hr
theorem Wx{s:aH}(h:eK s=true): mJ s=none∧s≠[105,102]:=by
 simp only[eK,Bool.and_eq_true,Bool.not_eq_true',pT]at h
 have h2:=h.2
 have hne:∀ w ∈ pS,s≠w:=fun w hw e=>by subst e;rw[List.contains_iff_mem.2 hw]at h2;cases h2
 refine⟨?_,hne _ (by decide)⟩
 unfold mJ
 rw[if_neg (hne _ (by decide)),if_neg (hne _ (by decide)),if_neg (hne _ (by decide))]
theorem ZB{v:dy}(hr:bS v=true)(hn:v.kind≠1∨0≤v.n): kA (.mk 1 v [] []):=by
 have ht:cG (.mk 1 v [] [])=[sP v]:=by simp[cG,jw]
 have hk:v.kind=1∧sP v=(2,[],v.n)∧v=⟨1,v.n,[]⟩∨v.kind=2∧sP v=(3,v.s,0)∧v=⟨2,0,v.s⟩∨(v.kind≠1∧v.kind≠2):=by
  obtain⟨k,n,s⟩:=v
  unfold bS at hr
  dsimp only at hr
  by_cases h1:k=1
  ·subst h1
   left
   rw[if_neg (by decide),if_pos rfl]at hr
   simp only[decide_eq_true_eq]at hr
   subst hr
   exact⟨rfl,rfl,rfl⟩
  by_cases h2:k=2
  ·subst h2
   right;left
   rw[if_neg (by decide),if_neg (by decide),if_pos rfl]at hr
   simp only[Bool.and_eq_true,decide_eq_true_eq]at hr
   obtain⟨rfl,_⟩:=hr
   exact⟨rfl,rfl,rfl⟩
  ·exact .inr (.inr ⟨h1,h2⟩)
 refine kA.of 7 (Nat.le_refl _) rfl (by rw[ht];simp) ?_ (fun T p L h1 h5 _ e=>by omega) ?_ ?_
 ·intro T p bB hs f hf
  rw[ht]at bB hs hf ⊢
  obtain⟨f,rfl⟩:∃ k,f=k+1:=⟨f-1,by simp at hf;omega⟩
  obtain⟨a1,a2,a3⟩:=U3 bB
  have e1:=di bB 4 [40]
  simp only[bh]
  rw[if_neg (by omega),if_neg (by omega),if_pos (by omega)]
  unfold fE
  rcases hk with⟨_,k2,k3⟩|⟨_,k2,k3⟩|⟨k1,k2⟩
  ·rw[k2]at a1 a2 a3 e1
   dsimp only at a1 a2 a3 e1
   rw[e1,if_neg (by simp),if_pos a1,a3,← k3];rfl
  ·rw[k2]at a1 a2 a3 e1
   dsimp only at a1 a2 a3 e1
   rw[e1,if_neg (by simp),if_neg (by omega),if_pos a1,a2,← k3];rfl
  ·obtain⟨w1,w2,w3⟩:=Ib hr k1 k2
   rw[w1]at a1 a2 a3 e1
   dsimp only at a1 a2 a3 e1
   rw[e1,if_neg (by simp),if_neg (by omega),if_neg (by omega),if_pos a1,a2,w2];rfl
 ·intro _ T p bB
  rw[ht]at bB
  rw[di bB]
  rcases hk with⟨_,k2,k3⟩|⟨_,k2,k3⟩|⟨k1,k2⟩
  ·rw[k2];rfl
  ·rw[k2];rfl
  ·have:=(Ib hr k1 k2).2.2
   simp[this]
 ·intro _ T p bB
  rw[ht]at bB
  rw[di bB]
  rcases hk with⟨_,k2,k3⟩|⟨_,k2,k3⟩|⟨k1,k2⟩
  ·rw[k2];rfl
  ·rw[k2];rfl
  ·rw[(Ib hr k1 k2).1];rfl
theorem aa1{s:aH}(hs:eK s=true): kA (.mk 2 v0 s []):=by
 have ht:cG (.mk 2 v0 s [])=[(1,s,0)]:=by simp[cG,jw]
 obtain⟨n1,n2⟩:=Wx hs
 refine kA.of 7 (Nat.le_refl _) rfl (by rw[ht];simp) ?_ (fun T p L h1 h5 _ e=>by omega) ?_ ?_
 ·intro T p bB _ f hf
  rw[ht]at bB hf ⊢
  obtain⟨f,rfl⟩:∃ k,f=k+1:=⟨f-1,by simp at hf;omega⟩
  obtain⟨a1,a2,a3⟩:=U3 bB
  have e1:=di bB 4 [40]
  dsimp only at a1 a2 a3 e1
  simp only[bh]
  rw[if_neg (by omega),if_neg (by omega),if_pos (by omega)]
  unfold fE
  rw[e1,if_neg (by simp),if_neg (by omega),if_neg (by omega),if_pos a1,a2,n1]
  dsimp only
  rw[if_pos hs];rfl
 ·intro _ T p bB
  rw[ht]at bB
  rw[di bB];simp[n2]
 ·intro _ T p bB
  rw[ht]at bB
  rw[di bB];rfl
theorem acP{a:Expr}(ha:kA a): kA (.mk 3 v0 [] [a]):=by
 have ht:cG (.mk 3 v0 [] [a])=(4,[45],0)::bU a 6:=by simp[cG,uO,jw,bU]
 refine kA.of 6 (by omega) rfl (by rw[ht];simp) ?_ (fun T p L h1 h5 _ e=>by omega) ?_ (fun e=>by omega)
 ·intro T p bB hs f hf
  rw[ht]at bB hs hf ⊢
  rw[List.length_cons]at hs hf ⊢
  obtain⟨f,rfl⟩:∃ k,f=k+1:=⟨f-1,by omega⟩
  have e1:dO T p 4 [45]=true:=by rw[di bB];rfl
  have h1:=ha.a T (p+1) 6 6 rfl (by omega) bB.2 (by rw[show p+1+(bU a 6).length=p+((bU a 6).length+1) by omega];exact hs) f (by omega)
  simp only[bh]
  rw[if_neg (by omega),if_pos ⟨trivial,e1⟩,h1]
  simp;omega
 ·intro _ T p bB
  rw[ht]at bB
  rw[di bB];rfl
theorem aee{a b c:Expr}(ha:kA a)(hb:kA b)(hc:kA c): kA (.mk 16 v0 [] [a,b,c]):=by
 have ht:cG (.mk 16 v0 [] [a,b,c])=Sz::(bU a 0++(Dn::(bU b 0++(Dp::bU c 0)))):=by simp[cG,uO,jw,bU]
 refine kA.of 0 (by omega) rfl (by rw[ht];simp) ?_ (fun T p L h1 h5 _ e=>by omega) (fun e=>by omega) (fun e=>by omega)
 intro T p bB hs f hf
 rw[ht]at bB hs hf ⊢
 simp only[List.length_cons,List.length_append]at hs hf ⊢
 obtain⟨f,rfl⟩:∃ k,f=k+1:=⟨f-1,by omega⟩
 have e1:dO T p 1 [105,102]=true:=by rw[di bB];rfl
 obtain⟨q1,q2⟩:=eT.app.1 bB.2
 obtain⟨q3,q4⟩:=eT.app.1 q2.2
 have h1:=ha.a T (p+1) 0 0 rfl (by omega) q1 (fG.of q2 Wu 0) f (by omega)
 have h2:=hb.a T (p+1+(bU a 0).length+1) 0 0 rfl (by omega) q3 (fG.of q4 Wv 0) f (by omega)
 have h3:=hc.a T (p+1+(bU a 0).length+1+(bU b 0).length+1) 0 0 rfl (by omega) q4.2 (by rw[show p+1+(bU a 0).length+1+(bU b 0).length+1+(bU c 0).length=p+((bU a 0).length+((bU b 0).length+((bU c 0).length+1)+1)+1) by omega];exact hs) f (by omega)
 have o1:cn T (p+1+(bU a 0).length) false 1 thenS=true:=by unfold cn;rw[di q2];rfl
 have o2:cn T (p+1+(bU a 0).length+1+(bU b 0).length) false 1 wF=true:=by unfold cn;rw[di q4];rfl
 have eA:gA (fun l q=>bh T f none l q) T (p+1)=⟨a,p+1+(bU a 0).length+1,false⟩:=by
  rw[show gA (fun l q=>bh T f none l q) T (p+1)=dU T (bh T f none 0 (p+1)) 1 thenS from rfl,h1];unfold dU kX;dsimp only;rw[o1];rfl
 have eB:n9 (fun l q=>bh T f none l q) T (p+1)=⟨b,p+1+(bU a 0).length+1+(bU b 0).length+1,false⟩:=by
  unfold n9;rw[eA,show ∀ q,mV (fun l q=>bh T f none l q) 0 q false=bh T f none 0 q from fun _=>rfl,h2];unfold dU kX;dsimp only;rw[o2];rfl
 have eC:xh (fun l q=>bh T f none l q) T (p+1)=⟨c,p+1+(bU a 0).length+1+(bU b 0).length+1+(bU c 0).length,false⟩:=by
  unfold xh;rw[eB,show ∀ q,mV (fun l q=>bh T f none l q) 0 q false=bh T f none 0 q from fun _=>rfl,h3]
 simp only[bh]
 rw[if_pos trivial,if_pos e1]
 unfold Bx
 rw[eA,eB,eC]
 dsimp only
 congr 1;omega
theorem acQ{op:Int}{a b:Expr}(o1:4≤op)(o2:op≤15)(FJ:1≤(bt op).level)(Sh:(bt op).level≤5)(uL:bR op=(bt op).level)(hop:(bt op).op=op)(hmem:bt op ∈ dL)(ha:kA a)(hb:kA b): kA (.mk op v0 [] [a,b]):=by
 have ht:cG (.mk op v0 [] [a,b])=bU a (if(bt op).level=3 then 4 else(bt op).level)++(EE op::bU b ((bt op).level+1)):=by
  simp only[cG,uO,jw]
  rw[if_neg (by omega),if_neg (by omega),if_neg (by omega),if_neg (by omega)]
  rfl
 have N4:∀ l,SB (EE op) l=if(bt op).level=l then some (bt op)else none:=fun l=>ZA hmem 0 l
 obtain⟨L,hL⟩:∃ L:Nat,(bt op).level=L:=⟨(bt op).level.toNat,by omega⟩
 rw[hL]at ht uL FJ Sh
 have e1:((L:Int)+1)=((L+1:Nat):Int):=by omega
 rw[e1]at ht
 have pb:=za hb.pos ((L+1:Nat):Int)
 have hC:∀ (T:List Tok) (p:Nat),L≠3→eT T p (cG (.mk op v0 [] [a,b]))→fG T (p+(cG (.mk op v0 [] [a,b])).length) (L+1)→ ∀ f,8*(cG (.mk op v0 [] [a,b])).length+(8-L)≤f→ ∃ f',f≤f'+1+(cG (.mk op v0 [] [a,b])).length∧bh T f none L p=bh T f' (some (.mk op v0 [] [a,b])) L (p+(cG (.mk op v0 [] [a,b])).length):=by
  intro T p h3 bB hs f hf
  rw[if_neg (by omega)]at ht
  rw[ht]at bB hs hf ⊢
  simp only[List.length_cons,List.length_append]at hs hf ⊢
  obtain⟨q1,q2⟩:=eT.app.1 bB
  have pa:=za ha.pos (L:Int)
  have hst:fG T (p+(bU a (L:Int)).length) (L+1):=fun l hl=>by rw[Ia q2,N4,if_neg (by omega)]
  obtain⟨f1,r1,r2⟩:=ha.c T p L _ rfl (by omega) (by omega) h3 q1 hst f (by omega)
  obtain⟨f1,rfl⟩:∃ k,f1=k+1:=⟨f1-1,by omega⟩
  have h2:=hb.a T (p+(bU a (L:Int)).length+1) (L+1) _ rfl (by omega) q2.2 (by rw[show p+(bU a (L:Int)).length+1+(bU b ((L+1:Nat):Int)).length=p+((bU a (L:Int)).length+((bU b ((L+1:Nat):Int)).length+1)) by omega];exact hs) f1 (by omega)
  refine⟨f1,by omega,?_⟩
  rw[r2]
  have ho:nu T (p+(bU a (L:Int)).length) false (L:Int)=some (bt op):=by rw[Ia q2,N4,if_pos hL]
  simp only[bh,ho,h2]
  rw[if_neg (by simp;omega),hop]
  congr 1;omega
 refine kA.of L (by omega) uL (by rw[ht];simp;omega) ?_ (fun T p L' _ _ h3 e=>by subst e;exact hC T p h3) ?_ (fun e=>by omega)
 ·intro T p bB hs f hf
  by_cases h3:L=3
  ·rw[if_pos (by omega)]at ht
   rw[ht]at bB hs hf ⊢
   simp only[List.length_cons,List.length_append]at hs hf ⊢
   obtain⟨q1,q2⟩:=eT.app.1 bB
   have hst:fG T (p+(bU a 4).length) 4:=fun l hl=>by rw[Ia q2,N4,if_neg (by omega)]
   obtain⟨f,rfl⟩:∃ k,f=k+1:=⟨f-1,by omega⟩
   obtain⟨f,rfl⟩:∃ k,f=k+1:=⟨f-1,by omega⟩
   have h1:=ha.a T p 4 4 rfl (by omega) q1 hst (f+1) (by omega)
   have h2:=hb.a T (p+(bU a 4).length+1) (L+1) _ rfl (by omega) q2.2 (by rw[show p+(bU a 4).length+1+(bU b ((L+1:Nat):Int)).length=p+((bU a 4).length+((bU b ((L+1:Nat):Int)).length+1)) by omega];exact hs.up (by omega)) f (by omega)
   have ho:nu T (p+(bU a 4).length) false (L:Int)=some (bt op):=by rw[Ia q2,N4,if_pos hL]
   subst h3
   rw[bh.eq_def]
   dsimp only
   rw[if_neg (by omega),if_neg (by omega),if_neg (by omega),h1]
   dsimp only
   rw[if_neg (by simp)]
   simp only[bh,ho,h2]
   rw[if_pos (.inl trivial),hop]
   congr 1;omega
  ·have Pk:=hs.up (Nat.le_succ L)
   obtain⟨f',r1,r2⟩:=hC T p h3 bB Pk f (by omega)
   rw[r2]
   exact rd_some (by omega) (hs L (Nat.le_refl _))
 ·intro _ T p bB
  rw[ht]at bB
  obtain⟨q1,_⟩:=eT.app.1 bB
  by_cases h3:L=3
  ·rw[if_pos (by omega)]at q1
   exact ha.f T p 4 (by omega) q1
  ·rw[if_neg (by omega)]at q1
   exact ha.f T p L (by omega) q1
theorem MK(x:Expr): bC x=true→kA x:=by
 induction x using Expr.ind with
 | h op v s l ih =>
   intro hr
   rcases ju hr with⟨rfl,rfl,rfl,h1,h2⟩|⟨rfl,rfl,rfl,h1⟩|⟨rfl,rfl,rfl,a,rfl,ha⟩|⟨rfl,rfl,rfl,a,b,c,rfl,ha,hb,hc⟩|⟨o1,o2,rfl,rfl,FJ,Sh,uL,hop,hmem,a,b,rfl,ha,hb⟩
   ·exact ZB h1 h2
   ·exact aa1 h1
   ·exact acP (ih a (by simp) ha)
   ·exact aee (ih a (by simp) ha) (ih b (by simp) hb) (ih c (by simp) hc)
   ·exact acQ o1 o2 FJ Sh uL hop hmem (ih a (by simp) ha) (ih b (by simp) hb)
theorem SC{T:List Tok}{x:Expr}{p lvl:Nat}(hr:bC x=true)(hl:lvl≤7)(bB:eT T p (bU x lvl))(hp:p≤T.length)(hs:fG T (p+(bU x lvl).length) lvl)(hlen:p+(bU x lvl).length≤T.length): cR T p lvl=(x,((p+(bU x lvl).length:Nat):Int),0):=by
 have h:=(MK x hr).a T p lvl _ rfl hl bB hs (8*T.length+9) (by omega)
 unfold cR
 rw[if_neg (by omega),Int.toNat_natCast,Int.toNat_natCast,h]
 rfl
theorem Wy(x:Expr)(h0:(jQ x).2=0)(hx:eH x): (jQ x).1=bF x∧cz (jQ x).1=(x,0,0)∧bC x=true∧fK x≤12:=by
 have hr:bC x=true:=by
  cases hq:bC x with
  | true=>rfl
  | false=>unfold jQ at h0;rw[if_pos hq]at h0;exact absurd h0 (by decide)
 have hd:fK x≤12:=by
  apply Nat.le_of_not_lt
  intro hq
  unfold jQ at h0;rw[hr,if_neg (by simp),if_pos hq]at h0;exact absurd h0 (by decide)
 have hb:(bF x).length≤200:=by
  apply Nat.le_of_not_lt
  intro hq
  unfold jQ at h0;rw[hr,if_neg (by simp),if_neg (by omega),if_pos (by simp[iS,hq])]at h0;exact absurd h0 (by decide)
 have ht:jQ x=(bF x,0):=by
  unfold jQ;rw[hr,if_neg (by simp),if_neg (by omega),if_neg (by simp[iS];omega)]
 refine⟨by rw[ht],?_,hr,hd⟩
 rw[ht]
 dsimp only
 obtain⟨T,hT,hk⟩:=IG (U2 x hr hx) hb
 have hw:bU x ((0:Nat):Int)=cG x:=by
  have:=sC hr
  unfold bU;exact oE (by omega) _
 have hlen:(cG x).length=T.length:=by rw[← hk];simp
 have bB:eT T 0 (bU x ((0:Nat):Int)):=by rw[hw,← hk];exact eT.map T 0 (Nat.zero_le _)
 have hrd:=SC hr (Nat.zero_le _) bB (Nat.zero_le _) (fG.end (by rw[hw];omega) 0) (by rw[hw];omega)
 rw[hw,Nat.zero_add,hlen]at hrd
 unfold cz
 rw[hT]
 dsimp only
 simp only[Int.natCast_zero]at hrd
 rw[if_neg (by decide),hrd]
 dsimp only
 rw[if_neg (by omega),if_neg (by decide),if_neg (by omega)]
theorem ZC(x:Expr): ∀ y,mI x y=true→x=y:=by
 induction x using Expr.ind with
 | h op v s l ih =>
   intro y h
   obtain⟨o,w,u,m⟩:=y
   simp only[mI,Expr.op,Expr.v,Expr.s,Expr.l,Bool.and_eq_true]at h
   obtain⟨⟨⟨h1,h2⟩,h3⟩,h⟩:=h
   obtain rfl:=of_decide_eq_true h1
   obtain rfl:=of_decide_eq_true h2
   obtain rfl:=of_decide_eq_true h3
   congr 1
   clear h1 h2 h3
   induction l generalizing m with
   | nil =>
     cases m with
     | nil=>rfl
     | cons y m=>simp[Ef]at h
   | cons x l ihl =>
     cases m with
     | nil=>simp[Ef]at h
     | cons y m =>
       simp only[Ef,Bool.and_eq_true]at h
       rw[ih x (by simp) y h.1,ihl (fun z hz=>ih z (List.mem_cons_of_mem _ hz)) m h.2]
def agp(k:Int)(s:aH): Prop:=(k=4∧s≠[40]∧s≠[45])∨(k=1∧s=wg)
theorem Pq(x:Expr): bC x=true→ ∀(T:List Tok) (p:Nat) (lvl:Int),eT T p (bU x lvl)→ ∀ k s,agp k s→dO T p k s=false:=by
 induction x using Expr.ind with
 | h op v s l ih =>
   intro hr T p lvl bB k w hw
   by_cases hlv:bR op<lvl
   ·rw[show bU (.mk op v s l) lvl=_ from wK hlv _]at bB
    rw[di bB]
    rcases hw with⟨rfl,h1,h2⟩|⟨rfl,rfl⟩
    ·simp[Ne.symm h1]
    ·rfl
   ·rw[show bU (.mk op v s l) lvl=_ from oE hlv _]at bB
    rcases ju hr with⟨rfl,rfl,rfl,h1,h2⟩|⟨rfl,rfl,rfl,h1⟩|⟨rfl,rfl,rfl,a,rfl,ha⟩|⟨rfl,rfl,rfl,a,b,c,rfl,ha,hb,hc⟩|⟨o1,o2,rfl,rfl,FJ,Sh,uL,hop,hmem,a,b,rfl,ha,hb⟩
    ·rw[show cG (.mk 1 v [] [])=[sP v] by simp[cG,jw]]at bB
     rw[di bB]
     unfold sP
     rcases hw with⟨rfl,h1,h2⟩|⟨rfl,rfl⟩
     ·split
      ·rfl
      split
      ·rfl
      split<;>rfl
     ·split
      ·rfl
      split
      ·rfl
      split
      ·split<;>rfl
      ·rfl
    ·rw[show cG (.mk 2 v0 s [])=[(1,s,0)] by simp[cG,jw]]at bB
     rw[di bB]
     rcases hw with⟨rfl,_,_⟩|⟨rfl,rfl⟩
     ·rfl
     ·have:s≠wg:=fun e=>by subst e;revert h1;decide
      simp[this]
    ·rw[show cG (.mk 3 v0 [] [a])=(4,[45],0)::bU a 6 by simp[cG,uO,jw,bU]]at bB
     rw[di bB]
     rcases hw with⟨rfl,h1,h2⟩|⟨rfl,rfl⟩
     ·simp[Ne.symm h2]
     ·rfl
    ·rw[show cG (.mk 16 v0 [] [a,b,c])=Sz::(bU a 0++(Dn::(bU b 0++(Dp::bU c 0)))) by simp[cG,uO,jw,bU]]at bB
     rw[di bB]
     rcases hw with⟨rfl,_,_⟩|⟨rfl,rfl⟩<;>rfl
    ·have ht : cG (.mk op v0 [] [a, b]) = bU a (if (bt op).level = 3 then 4 else (bt op).level) ++ (EE op :: bU b ((bt op).level + 1)) := by
      simp only[cG,uO,jw]
      rw[if_neg (by omega),if_neg (by omega),if_neg (by omega),if_neg (by omega)]
      rfl
     rw[ht]at bB
     exact ih a (by simp) ha T p _ (eT.app.1 bB).1 k w hw
theorem ZD(x:Expr): bC x=true→ ∀(T:List Tok) (p:Nat) (lvl:Int),eT T p (bU x lvl)→dO T p 4 [45]=true→2≤(bU x lvl).length:=by
 intro hr T p lvl bB h
 obtain⟨op,v,s,l⟩:=x
 by_cases hlv:bR op<lvl
 ·rw[show bU (.mk op v s l) lvl=_ from wK hlv _];simp
 ·have e:bU (.mk op v s l) lvl=cG (.mk op v s l):=oE hlv _
  rw[e]at bB ⊢
  have r:=fun y hy=>(MK y hy).pos
  rcases ju hr with⟨rfl,rfl,rfl,h1,h2⟩|⟨rfl,rfl,rfl,h1⟩|⟨rfl,rfl,rfl,a,rfl,ha⟩|⟨rfl,rfl,rfl,a,b,c,rfl,ha,hb,hc⟩|⟨o1,o2,rfl,rfl,FJ,Sh,uL,hop,hmem,a,b,rfl,ha,hb⟩
  ·exfalso
   rw[show cG (.mk 1 v [] [])=[sP v] by simp[cG,jw]]at bB
   rw[di bB]at h
   unfold sP at h
   split at h
   ·simp at h
   split at h
   ·simp at h
   split at h<;>simp at h
  ·exfalso
   rw[show cG (.mk 2 v0 s [])=[(1,s,0)] by simp[cG,jw]]at bB
   rw[di bB]at h
   simp at h
  ·rw[show cG (.mk 3 v0 [] [a])=(4,[45],0)::bU a 6 by simp[cG,uO,jw,bU]]
   have:=za (r a ha) 6
   rw[List.length_cons];omega
  ·rw[show cG (.mk 16 v0 [] [a,b,c])=Sz::(bU a 0++(Dn::(bU b 0++(Dp::bU c 0)))) by simp[cG,uO,jw,bU]]
   simp;omega
  ·have ht : cG (.mk op v0 [] [a, b]) = bU a (if (bt op).level = 3 then 4 else (bt op).level) ++ (EE op :: bU b ((bt op).level + 1)) := by
    simp only[cG,uO,jw]
    rw[if_neg (by omega),if_neg (by omega),if_neg (by omega),if_neg (by omega)]
    rfl
   rw[ht,List.length_append,List.length_cons]
   have:=za (r a ha) (if(bt op).level=3 then 4 else(bt op).level)
   omega
def Wz: TK:=(4,[46,46],0)
def SD: TK:=(4,[44],0)
def kB(t:Test): List TK:=if t.kind=1 then bU t.a 4 else if t.kind=6 then(4,BE t,0)::(bU t.a 4++(Wz::(bU t.b 4++[(4,vt t,0)])))else (4,eL t.kind,0)::bU t.a 4
theorem uP{t:Test}(h:ez t=true): (t.kind=6∧bC t.a=true∧bC t.b=true)∨(1≤t.kind∧t.kind≤5∧bC t.a=true∧t.b=x0∧t.lo=false∧t.hi=false):=by
 unfold ez at h
 split at h
 ·rename_i h6
  simp only[iv,Bool.and_eq_true]at h
  exact .inl ⟨h6,h.1.1,h.2.1⟩
 ·simp only[iv,Bool.and_eq_true,decide_eq_true_eq,Bool.not_eq_true']at h
  obtain⟨⟨⟨⟨h1,h2⟩,h3⟩,h4⟩,h5⟩:=h
  exact .inr ⟨h1.1,h1.2,h2.1,ZC _ _ h3,h4,h5⟩
theorem U4{t:Test}(h:ez t=true)(ho:AH t): Lx Bd (testW t) (kB t):=by
 have hw:∀ x,bC x=true→eH x→Lx Bd (dB x 4) (bU x 4):=fun x hr hx=>SA (U2 x hr hx) _ _
 unfold testW kB
 rcases uP h with⟨h6,ha,hb⟩|⟨h1,h5,ha,_⟩
 ·rw[if_neg (show ¬ t.kind=1 by omega),if_pos h6,if_neg (show ¬ t.kind=1 by omega),if_pos h6]
  have hlo:Lx B0 (BE t) [(4,BE t,0)]:=oD (by unfold BE;split<;>decide)
  have hhi:Lx B0 (vt t) [(4,vt t,0)]:=oD (by unfold vt;split<;>decide)
  have hbd:∀ r,B0 r→Bd (vt t++r):=fun r _=>by unfold vt;split<;>exact nc (by decide)
  have:=(((hlo.app (hw _ ha ho.1.1) (fun _ _=>trivial)).app (oD (m:=[46,46]) (by decide)) (fun r _=>nc (by decide))).app (hw _ hb ho.2.1) (fun _ _=>trivial)).app hhi hbd
  exact(by simpa[Wz]using this.weak (B':=Bd) (fun _ _=>trivial))
 ·by_cases hk:t.kind=1
  ·rw[if_pos hk,if_pos hk];exact hw _ ha ho.1.1
  ·rw[if_neg hk,if_neg hk,if_neg (by omega),if_neg (by omega)]
   have hs:Lx Bs (eL t.kind) [(4,eL t.kind,0)]:=U1 (by
    rcases(by omega:t.kind=2∨t.kind=3∨t.kind=4∨t.kind=5)with e|e|e|e<;>rw[e]<;>decide)
   have:=((hs.app (Lx.sp B0) (fun r _=>rfl)).app (hw _ ha ho.1.1) (fun _ _=>trivial))
   simpa using this
theorem EF{T:List Tok}{x:Expr}{p:Nat}(hr:bC x=true)(bB:eT T p (bU x 4))(hs:fG T (p+(bU x 4).length) 4)(hp:p+(bU x 4).length≤T.length): eD T p false=⟨x,p+(bU x 4).length,false⟩:=by
 have h4:((4:Nat):Int)=4:=rfl
 have:=SC (lvl:=4) hr (by omega) (by rw[h4];exact bB) (by omega) (by rw[h4];exact hs) (by rw[h4];exact hp)
 rw[h4]at this
 rw[Ch]
 unfold R6
 rw[h4,this]
 simp;omega
theorem eT.le{T:List Tok}{ks:List TK}: ∀ {p:Nat},eT T p ks→p≤T.length→p+ks.length≤T.length:=by
 induction ks with
 | nil=>intro p _ hp;exact hp
 | cons k ks ih=>intro p h hp;rw[List.length_cons];have:=ih h.2 h.1.1;omega
theorem U5{T:List Tok}{t:Test}{p:Nat}(h:ez t=true)(hp:p≤T.length)(bB:eT T p (kB t))(hs:fG T (p+(kB t).length) 4): cP T p false=⟨t,p+(kB t).length,false⟩:=by
 have hle:=bB.le hp
 obtain⟨k,a,b,lo,hi⟩:=t
 rcases uP h with⟨h6,ha,hb⟩|⟨h1,h5,ha,h2,h3,h4⟩
 ·dsimp only at h6 ha hb
  subst h6
  have ht:kB ⟨6,a,b,lo,hi⟩=(4,BE ⟨6,a,b,lo,hi⟩,0)::(bU a 4++(Wz::(bU b 4++[(4,vt ⟨6,a,b,lo,hi⟩,0)]))):=rfl
  rw[ht]at bB hle ⊢
  simp only[List.length_cons,List.length_append,List.length_nil]at hle ⊢
  have o:∀ s,cn T p false 4 s=decide (BE ⟨6,a,b,lo,hi⟩=s):=fun s=>by unfold cn;rw[di bB];simp
  obtain⟨q1,q2⟩:=eT.app.1 bB.2
  obtain⟨q3,q4⟩:=eT.app.1 q2.2
  have r1:=EF ha q1 (fG.of q2 Ww 4) (by omega)
  have hq:quiet (4,vt ⟨6,a,b,lo,hi⟩,0):=by unfold vt;dsimp only;split<;>first|exact Zy|exact Zz
  have r2:=EF hb q3 (fG.of q4 hq 4) (by omega)
  have o2:cn T (p+1+(bU a 4).length) false 4 [46,46]=true:=by unfold cn;rw[di q2];rfl
  have e1:lG T p=⟨a,p+1+(bU a 4).length,false⟩:=r1
  have e2:mB T p=⟨a,p+1+(bU a 4).length+1,false⟩:=by
   unfold mB dU kX;rw[e1];dsimp only;rw[o2];rfl
  have e3:ep T p=⟨b,p+1+(bU a 4).length+1+(bU b 4).length,false⟩:=by
   unfold ep;rw[e2];exact r2
  have o3:∀ s,cn T (p+1+(bU a 4).length+1+(bU b 4).length) false 4 s=decide (vt ⟨6,a,b,lo,hi⟩=s):=fun s=>by unfold cn;rw[di q4];simp
  have e4:UH T p=hi:=by
   unfold UH;rw[e3];dsimp only;rw[o3];unfold vt;dsimp only;cases hi<;>rfl
  have e5:(rm T p).p=p+1+(bU a 4).length+1+(bU b 4).length+1∧(rm T p).bad=false:=by
   unfold rm
   rw[e4]
   cases hi with
   | true=>rw[if_pos rfl,e3];exact⟨rfl,rfl⟩
   | false =>
     rw[if_neg (by simp),e3]
     unfold dU kX
     dsimp only
     rw[o3]
     exact⟨rfl,rfl⟩
  have e6:FH T p lo=⟨⟨6,a,b,lo,hi⟩,p+((bU a 4).length+((bU b 4).length+(0+1)+1)+1),false⟩:=by
   unfold FH
   rw[e1,e3,e4,e5.1,e5.2]
   dsimp only
   congr 1
   omega
  unfold cP
  rw[o,o,o,o,o,o]
  unfold BE
  dsimp only
  cases lo with
  | false=>exact e6
  | true=>exact e6
 ·dsimp only at h1 h5 ha h2 h3 h4
  subst h2;subst h3;subst h4
  by_cases hk:k=1
  ·subst hk
   have ht:kB ⟨1,a,x0,false,false⟩=bU a 4:=rfl
   rw[ht]at bB hle hs ⊢
   have o:∀ s,s≠[40]→s≠[45]→cn T p false 4 s=false:=fun s a1 a2=>by
    unfold cn;rw[Pq a ha T p 4 bB 4 s (.inl ⟨rfl,a1,a2⟩)];rfl
   have r:=EF ha bB hs hle
   unfold cP
   rw[o _ (by decide) (by decide),o _ (by decide) (by decide),o _ (by decide) (by decide),o _ (by decide) (by decide),o _ (by decide) (by decide),o _ (by decide) (by decide),r]
   rfl
  ·have ht : kB ⟨k, a, x0, false, false⟩ = (4, eL k, 0) :: bU a 4 := by
    unfold kB;dsimp only;rw[if_neg hk,if_neg (by omega)]
   rw[ht]at bB hle hs ⊢
   rw[List.length_cons]at hle hs ⊢
   have o:∀ s,cn T p false 4 s=decide (eL k=s):=fun s=>by unfold cn;rw[di bB];simp
   have r:=EF ha bB.2 (by rw[show p+1+(bU a 4).length=p+((bU a 4).length+1) by omega];exact hs) (by omega)
   have e:nO k (eD T (p+1) false)=⟨⟨k,a,x0,false,false⟩,p+((bU a 4).length+1),false⟩:=by
    rw[r];unfold nO;dsimp only;congr 1;omega
   unfold cP
   rw[o,o,o,o,o,o]
   rcases(by omega:k=2∨k=3∨k=4∨k=5)with rfl|rfl|rfl|rfl<;>exact e
def EG(l:List Test): List TK:=l.flatMap fun t=>SD::kB t
def jx: List Test→List TK
 | []=>[]
 | t::r=>kB t++EG r
def EH(l:List Test): aH:=l.flatMap fun t=>j5++testW t
theorem WA(t:Test)(r:List Test): kx (t::r)=testW t++EH r:=by
 unfold kx Lib.join EH
 induction r generalizing t with
 | nil=>simp[List.intercalate]
 | cons u r ih =>
   have h2:=ih u
   simp only[List.map_cons,List.flatMap_cons]at h2 ⊢
   rw[List.intercalate_cons_cons,h2,List.append_assoc,List.append_assoc]
theorem ZE(l:List Test): (∀ t ∈ l,ez t=true∧AH t)→Lx Bd (EH l) (EG l):=by
 induction l with
 | nil=>intro _;exact Lx.nil _
 | cons t l ih =>
   intro h
   have ht:=h t (by simp)
   have i:=ih (fun u hu=>h u (List.mem_cons_of_mem _ hu))
   unfold EH EG
   rw[List.flatMap_cons,List.flatMap_cons]
   have hb:∀ r,Bd r→Bd (EH l++r):=fun r hr=>by
    cases l with
    | nil=>exact hr
    | cons u l=>exact nc (by decide)
   have:=(((oD (m:=[44]) (by decide)).app (Lx.sp B0) (fun _ _=>trivial)).app (U4 ht.1 ht.2) (fun _ _=>trivial)).app i hb
   simpa[j5,SD,EH,EG]using this
theorem aa2{l:List Test}(hl:l≠[])(h:∀ t ∈ l,ez t=true∧AH t): Lx Bd (kx l) (jx l):=by
 cases l with
 | nil=>exact absurd rfl hl
 | cons t l =>
   rw[WA]
   have ht:=h t (by simp)
   have hb:∀ r,Bd r→Bd (EH l++r):=fun r hr=>by
    cases l with
    | nil=>exact hr
    | cons u l=>exact nc (by decide)
   exact(U4 ht.1 ht.2).app (ZE l (fun u hu=>h u (List.mem_cons_of_mem _ hu))) hb
def ZG(T:List Tok)(p:Nat): Prop:=cn T p false 4 [44]=false∧fG T p 4
theorem SE{T:List Tok}(l:List Test): ∀(t:Test) (acc:List Test) (p f:Nat),(∀ u ∈ t::l,ez u=true)→p≤T.length→eT T p (jx (t::l))→ZG T (p+(jx (t::l)).length)→l.length<f→j8 T f acc p false=⟨acc++t::l,p+(jx (t::l)).length,false⟩:=by
 induction l with
 | nil =>
   intro t acc p f h hp bB he hf
   obtain⟨f,rfl⟩:∃ k,f=k+1:=⟨f-1,by simp at hf;omega⟩
   simp only[jx,EG,List.flatMap_nil,List.append_nil]at bB he ⊢
   rw[kE,U5 (h t (by simp)) hp bB he.2]
   dsimp only
   rw[he.1];rfl
 | cons u l ih =>
   intro t acc p f h hp bB he hf
   obtain⟨f,rfl⟩:∃ k,f=k+1:=⟨f-1,by simp at hf;omega⟩
   have e:jx (t::u::l)=kB t++(SD::jx (u::l)):=by simp[jx,EG]
   rw[e]at bB he ⊢
   simp only[List.length_append,List.length_cons]at he ⊢
   obtain⟨q1,q2⟩:=eT.app.1 bB
   rw[kE,U5 (h t (by simp)) hp q1 (fG.of q2 T3 4)]
   dsimp only
   have o:cn T (p+(kB t).length) false 4 [44]=true:=by unfold cn;rw[di q2];rfl
   rw[o,if_pos rfl,ih u _ _ f (fun w hw=>h w (List.mem_cons_of_mem _ hw)) q2.1.1 q2.2 (by rw[show p+(kB t).length+1+(jx (u::l)).length=p+((kB t).length+((jx (u::l)).length+1)) by omega];exact he) (by rw[List.length_cons]at hf;omega)]
   congr 1
   ·simp
   ·omega
theorem X_(l:List Test): (∀ t ∈ l,ez t=true)→l.length≤(jx l).length:=by
 have pt:∀ t,ez t=true→1≤(kB t).length:=fun t h=>by
  unfold kB
  split
  ·rcases uP h with⟨h6,_⟩|⟨_,_,ha,_⟩
   ·omega
   ·exact za (MK _ ha).pos 4
  ·split<;>simp
 have pr:∀ l:List Test,l.length≤(EG l).length:=fun l=>by
  induction l with
  | nil=>simp
  | cons t l ih=>unfold EG at ih ⊢;rw[List.flatMap_cons,List.length_append,List.length_cons,List.length_cons];omega
 intro h
 cases l with
 | nil=>simp
 | cons t l =>
   have:=pt t (h t (by simp))
   have:=pr l
   simp only[jx,List.length_append,List.length_cons];omega
theorem WB(c:Cell)(h0:(kz c).2=0)(hx:wm c): cZ (kz c).1=(c,0,0)∧eO c=true:=by
 have hr:eO c=true:=by
  cases hq:eO c with
  | true=>rfl
  | false=>unfold kz at h0;rw[if_pos hq]at h0;exact absurd h0 (by decide)
 refine⟨?_,hr⟩
 obtain⟨any,neg,ts⟩:=c
 cases any with
 | true =>
   have e:kz ⟨true,neg,ts⟩=([45],0):=by unfold kz;rw[hr,if_neg (by simp),if_pos rfl]
   rw[e]
   unfold eO at hr
   simp only[if_true,Bool.and_eq_true,Bool.not_eq_true',decide_eq_true_eq]at hr
   obtain⟨rfl,h2⟩:=hr
   have:ts=[]:=List.length_eq_zero_iff.1 h2
   subst this
   dsimp only
   obtain⟨T,hT,hk⟩:=IG ((oD (m:=[45]) (by decide)).weak (B':=Bd) (fun _ _=>trivial)) (by decide)
   have bB:eT T 0 [(4,[45],0)]:=by rw[← hk];exact eT.map T 0 (Nat.zero_le _)
   have hl:T.length=1:=by rw[← List.length_map (f:=tk),hk];rfl
   unfold cZ
   rw[hT]
   dsimp only
   rw[if_neg (by decide),if_pos ⟨hl,by unfold cn;rw[di bB];rfl⟩]
   rfl
 | false =>
   have qc:=hr
   unfold eO at hr
   simp only[Bool.false_eq_true,if_false,Bool.and_eq_true,decide_eq_true_eq,Bool.not_eq_true',List.any_eq_false]at hr
   obtain⟨⟨l1,l2⟩,hs⟩:=hr
   have hs:∀ t ∈ ts,ez t=true:=fun t ht=>by have:=hs t ht;simpa using this
   have hb:ts.any gQ=false:=by
    cases hq:ts.any gQ with
    | false=>rfl
    | true=>unfold kz at h0;rw[qc,if_neg (by simp),if_neg (by simp),if_pos hq]at h0;exact absurd h0 (by decide)
   have hlen:(nP neg (kx ts)).length≤200:=by
    apply Nat.le_of_not_lt
    intro hq
    unfold kz at h0;rw[qc,if_neg (by simp),if_neg (by simp),if_neg (by rw[hb];simp),if_pos hq]at h0;exact absurd h0 (by decide)
   have e:kz ⟨false,neg,ts⟩=(nP neg (kx ts),0):=by
    unfold kz;rw[qc,if_neg (by simp),if_neg (by simp),if_neg (by dsimp only;rw[hb];simp),if_neg (by dsimp only;omega)]
   rw[e]
   dsimp only
   obtain⟨t,l,rfl⟩:∃ t l,ts=t::l:=by cases ts with|nil=>simp at l1|cons t l=>exact⟨t,l,rfl⟩
   have hj:=aa2 (l:=t::l) (by simp) (fun u hu=>⟨hs u hu,hx.2 u hu⟩)
   have c_:=X_ (t::l) hs
   have hne:1≤(jx (t::l)).length:=by rw[List.length_cons]at c_;omega
   cases neg with
   | false =>
     obtain⟨T,hT,hk⟩:=IG (s:=nP false (kx (t::l))) hj hlen
     have hTl:(jx (t::l)).length=T.length:=by rw[← hk];simp
     have bB:eT T 0 (jx (t::l)):=by rw[← hk];exact eT.map T 0 (Nat.zero_le _)
     have yg:eT T 0 (kB t):=(eT.app.1 (show eT T 0 (kB t++EG l) from bB)).1
     have Ph:=uP (hs t (by simp))
     have hnot:dO T 0 1 wg=false:=by
      rcases Ph with⟨h6,_⟩|⟨_,_,ha,_⟩
      ·unfold kB at yg;rw[if_neg (by omega),if_pos h6]at yg;rw[di yg];rfl
      ·unfold kB at yg
       split at yg
       ·exact Pq _ ha T 0 4 yg 1 wg (.inr ⟨rfl,rfl⟩)
       ·rw[if_neg (by omega)]at yg;rw[di yg];rfl
     have hn:jh T=false:=by unfold jh;rw[hnot];simp
     have lH:¬ (T.length=1∧cn T 0 false 4 [45]=true):=by
      rintro⟨h1,h2⟩
      have h2:dO T 0 4 [45]=true:=by simpa[cn]using h2
      have h3:(kB t).length≤1:=by have:=yg.le (Nat.zero_le _);omega
      rcases Ph with⟨h6,_⟩|⟨_,_,ha,_⟩
      ·unfold kB at h3;rw[if_neg (by omega),if_pos h6]at h3;simp at h3
      ·unfold kB at h3 yg
       split at h3
       ·rename_i QX
        rw[if_pos QX]at yg
        have:=ZD _ ha T 0 4 yg h2
        omega
       ·rw[if_neg (by omega),List.length_cons]at h3
        have:=za (MK _ ha).pos 4
        omega
     have hend:ZG T (0+(jx (t::l)).length):=by
      refine⟨?_,fG.end (by omega) 4⟩
      simp only[cn,dO,Bool.not_false,Bool.true_and,Bool.and_eq_false_iff,decide_eq_false_iff_not];left;omega
     have hts:=SE l t [] 0 (T.length+1) hs (Nat.zero_le _) bB hend (by rw[List.length_cons]at c_;omega)
     rw[List.nil_append,Nat.zero_add,hTl]at hts
     have Gp:dQ T=⟨t::l,T.length,false⟩:=by
      unfold dQ BD wh
      rw[hn]
      simp only[Bool.false_eq_true,if_false]
      exact hts
     unfold cZ
     rw[hT]
     dsimp only
     rw[if_neg (by decide),if_neg lH,Gp]
     dsimp only
     rw[if_neg (by omega),if_neg (by simp),if_neg (by omega),hn,qc,if_neg (by simp)]
   | true =>
     have Cu:Lx Bd (nP true (kx (t::l))) ((1,wg,0)::(4,[40],0)::(jx (t::l)++[(4,[41],0)])):=by
      have:=(((y_ (s:=wg) (by decide) (by decide) (by decide)).app (oD (m:=[40]) (by decide)) (fun r _=>nc (by decide))).app hj (fun _ _=>trivial)).app ((oD (m:=[41]) (by decide)).weak (B':=Bd) (fun _ _=>trivial)) (fun r _=>nc (by decide))
      simpa[nP,wg]using this
     obtain⟨T,hT,hk⟩:=IG Cu hlen
     have hTl:(jx (t::l)).length+3=T.length:=by rw[← List.length_map (f:=tk),hk];simp
     have bB:eT T 0 ((1,wg,0)::(4,[40],0)::(jx (t::l)++[(4,[41],0)])):=by rw[← hk];exact eT.map T 0 (Nat.zero_le _)
     have hn:jh T=true:=by
      unfold jh;rw[di bB,di bB.2]
      simp;omega
     obtain⟨q1,q2⟩:=eT.app.1 bB.2.2
     have hend:ZG T (2+(jx (t::l)).length):=⟨by unfold cn;rw[di q2];rfl,fG.of q2 JP 4⟩
     have hts:=SE l t [] 2 (T.length+1) hs (by omega) q1 hend (by rw[List.length_cons]at c_;omega)
     rw[List.nil_append]at hts
     have ho:cn T (2+(jx (t::l)).length) false 4 [41]=true:=by unfold cn;rw[di q2];rfl
     have Gp:dQ T=⟨t::l,T.length,false⟩:=by
      unfold dQ BD wh kX
      rw[hn]
      simp only[if_true]
      rw[hts]
      dsimp only
      rw[ho]
      simp;omega
     unfold cZ
     rw[hT]
     dsimp only
     rw[if_neg (by decide),if_neg (by omega),Gp]
     dsimp only
     rw[if_neg (by omega),if_neg (by simp),if_neg (by omega),hn,qc,if_neg (by simp)]
end Go.Proofs.YtmbgnaoilncbnaaGreatDoor
