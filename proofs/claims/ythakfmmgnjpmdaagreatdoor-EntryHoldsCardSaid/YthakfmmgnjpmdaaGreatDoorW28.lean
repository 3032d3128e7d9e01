/- Part. -/
import Derived.Test.YthakfmmgnjpmdaaGreatDoorW27
set_option linter.all false
set_option maxHeartbeats 4000000
namespace Go.Proofs.YthakfmmgnjpmdaaGreatDoor
open Go.AM
set_option maxRecDepth 4000
def iA(T:List Tok): Nat->List TK->Prop
 | _,[]=>True
 | p,k::ks=>(p<T.length/\tk (T.getD p default)=k)/\iA T (p+1) ks
def iA.app{T:List Tok}{a b:List TK}: ∀ {p:Nat},iA T p (a++b)↔iA T p a/\iA T (p+a.length) b:=by
 induction a with
 | nil=>intro p;simp[iA]
 | cons k a ih =>
   intro p;rw[bt];simp only[iA,ih,List.length_cons];rw[show p+(a.length+1)=p+1+a.length by omega,and_assoc,and_assoc,and_assoc]
def iA.map(T:List Tok): ∀(p:Nat),p<=T.length->iA T p ((T.drop p).map tk):=by
 intro p hp
 induction hn:T.length-p generalizing p with
 | zero=>rw[List.drop_eq_nil_of_le (by omega)];trivial
 | succ n ih =>
   have hlt:p<T.length:=by omega
   rw[dy hlt,bf];refine⟨⟨hlt,?_⟩,ih (p+1) hlt (by omega)⟩;rw[ai,aF hlt];rfl
def fJ{T:List Tok}{p:Nat}{t:TK}{ks:List TK}(h:iA T p (t::ks))(k:Int)(s:aO): kA T p k s=(decide (t.1=k) && decide (t.2.1=s)):=by
 obtain⟨⟨h1,h2⟩,_⟩:=h;unfold kA;rw[<-h2];simp[h1,tk]
def Tn{T:List Tok}{p:Nat}{t:TK}{ks:List TK}(h:iA T p (t::ks)): (T.getD p default).kind=t.1/\(T.getD p default).s=t.2.1/\(T.getD p default).n=t.2.2:=by
 obtain⟨⟨h1,h2⟩,_⟩:=h;rw[<-h2];exact⟨rfl,rfl,rfl⟩
def P9(t:TK)(l:Int): Option zg:=jh.find? fun x=>x.level==l && (decide (t.1=nG x) && decide (t.2.1=x.sign))
def Ej{T:List Tok}{p:Nat}{t:TK}{ks:List TK}(h:iA T p (t::ks))(l:Int): tj T p false l=P9 t l:=by
 unfold tj P9 fc
 congr 1
 funext x
 rw[fJ h];simp
def adk{T:List Tok}{p:Nat}(h:T.length<=p)(l:Int): tj T p false l=none:=by
 unfold tj;rw[d_];intro x _;have:kA T p (nG x) x.sign=false:=by simp only[kA,Bool.and_eq_false_iff,decide_eq_false_iff_not];left;omega
 simp[fc,this]
def iV(T:List Tok)(p lvl:Nat): Prop:= ∀ l:Nat,lvl<=l->tj T p false l=none
def iV.up{T:List Tok}{p a b:Nat}(h:iV T p a)(hab:a<=b): iV T p b:=fun l hl=>h l (bW hab hl)
def quiet(t:TK): Prop:= ∀ l:Int,P9 t l=none
def iV.of{T:List Tok}{p:Nat}{t:TK}{ks:List TK}(h:iA T p (t::ks))(hq:quiet t)(lvl:Nat): iV T p lvl:=fun l _=>by rw[Ej h];exact hq l
def iV.end{T:List Tok}{p:Nat}(h:T.length<=p)(lvl:Nat): iV T p lvl:=fun l _=>adk h l
def quiet_of{t:TK}(h:∀ b ∈ jh,¬ (t.1=nG b/\t.2.1=b.sign)): quiet t:=by
 intro l;unfold P9;rw[d_];intro x hx;have:=h x hx;simp only[aj,decide_eq_true_eq,beq_iff_eq];exact fun hh=>this hh.2
def Gk: quiet (4,[41],0):=quiet_of (by decide)
def Vw: quiet A0:=quiet_of (by decide)
def Vx: quiet A1:=quiet_of (by decide)
def Vy: quiet (4,[46,46],0):=quiet_of (by decide)
def RY: quiet (4,[44],0):=quiet_of (by decide)
def aaL: quiet (4,[91],0):=quiet_of (by decide)
def aaM: quiet (4,[93],0):=quiet_of (by decide)
def aaN{b:zg}(hb:b ∈ jh)(n:Int)(l:Int): P9 (nG b,b.sign,n) l=if b.level=l then some b else none:=by
 simp only[jh,List.mem_cons,List.not_mem_nil,or_false]at hb;rcases hb with rfl|rfl|rfl|rfl|rfl|rfl|rfl|rfl|rfl|rfl|rfl|rfl<;>simp[P9,jh,nG,List.find?]<;>split<;>simp_all
def Rd(T:List Tok)(x:Expr)(p q lvl:Nat): Prop:= ∀ f,8*(q-p)+(8-lvl)<=f->bY T f none lvl p=⟨x,q,false⟩
def rd_some{T:List Tok}{f:Nat}{x:Expr}{lvl q:Nat}(hf:1<=f)(h:tj T q false lvl=none): bY T f (some x) lvl q=⟨x,q,false⟩:=by
 obtain⟨f,rfl⟩:∃ k,f=k+1:=⟨f-1,by omega⟩;simp only[bY,h]
def Rd.down{T:List Tok}{x:Expr}{p q l:Nat}(hpq:p<q)(h:Rd T x p q (l+1))(hl:l+1<=7)(hs:iV T q l)(h0:l=0->kA T p 1 [105,102]=false)(h6:l=6->kA T p 4 [45]=false): Rd T x p q l:=by
 intro f hf;obtain⟨f,rfl⟩:∃ k,f=k+1:=⟨f-1,by omega⟩;by_cases Ms:l=0
 ·subst Ms;simp only[bY,if_true,h0 rfl,aG,if_false];exact h f (by omega)
 by_cases hl6:l=6
 ·subst hl6;have:=h (f+1) (by omega);simp only[bY]at this ⊢;rw[if_neg (by omega),if_neg (by rw[h6 rfl];simp),if_pos (by omega)];rw[if_neg (by omega),if_neg (by omega),if_pos (by omega)]at this;exact this
 ·have h1:=h f (by omega);simp only[bY];rw[if_neg Ms,if_neg (by omega),if_neg (by omega),h1];dsimp only;rw[if_neg (by simp)];exact rd_some (by omega) (hs l (Nat.le_refl _))
def Rd.descend{T:List Tok}{x:Expr}{p q b:Nat}(hpq:p<q)(h:Rd T x p q b)(hb:b<=7)(h0:b=0\/kA T p 1 [105,102]=false)(h6:b<=6\/kA T p 4 [45]=false): ∀ lvl,lvl<=b->iV T q lvl->Rd T x p q lvl:=by
 intro lvl hl
 induction hn:b-lvl generalizing lvl with
 | zero=>intro _;rw[show lvl=b by omega];exact h
 | succ n ih =>
   intro hs;refine(ih (lvl+1) (by omega) (by omega) (hs.up (by omega))).down hpq (by omega) hs (fun e=>?_) (fun e=>?_)
   ·rcases h0 with h0|h0
    ·omega
    ·exact h0
   ·rcases h6 with h6|h6
    ·omega
    ·exact h6
def Rd.paren{T:List Tok}{x:Expr}{p:Nat}{ks:List TK}(bR:iA T p ((4,[40],0)::(ks++[(4,[41],0)])))(h:Rd T x (p+1) (p+1+ks.length) 0): Rd T x p (p+(ks.length+2)) 7:=by
 intro f hf;obtain⟨f,rfl⟩:∃ k,f=k+1:=⟨f-1,by omega⟩;have h1:=h f (by omega);have e1:kA T p 4 [40]=true:=by rw[fJ bR];rfl
 have hc:iA T (p+1+ks.length) [(4,[41],0)]:=(iA.app.1 bR.2).2;have e2:fc T (p+1+ks.length) false 4 [41]=true:=by unfold fc;rw[fJ hc];rfl
 simp only[bY];rw[if_neg (by omega),if_neg (by omega),if_pos (by omega)];unfold nh;rw[e1,if_pos rfl];dsimp only;rw[h1];unfold jO qh;dsimp only;rw[e2,if_pos rfl];simp;omega
def vL{n lvl:Int}(h:n<lvl)(ks:List TK): ld (n,ks) lvl=(4,[40],0)::(ks++[(4,[41],0)]):=by unfold ld;exact if_pos h
def pT{n lvl:Int}(h:¬ n<lvl)(ks:List TK): ld (n,ks) lvl=ks:=by unfold ld;exact if_neg h
structure mA (x:Expr):Prop where
 pos:1<=(ey x).length
 a:∀ (T:List Tok) (p lvl:Nat) (i:Int),i=lvl->lvl<=7->iA T p (c_ x i)->iV T (p+(c_ x i).length) lvl->Rd T x p (p+(c_ x i).length) lvl
 c:∀ (T:List Tok) (p L:Nat) (i:Int),i=L->1<=L->L<=5->L≠3->iA T p (c_ x i)->iV T (p+(c_ x i).length) (L+1)-> ∀ f,8*(c_ x i).length+(8-L)<=f-> ∃ f',f<=f'+1+(c_ x i).length/\bY T f none L p=bY T f' (some x) L (p+(c_ x i).length)
 f:∀ (T:List Tok) (p lvl:Nat),1<=lvl->iA T p (c_ x lvl)->kA T p 1 [105,102]=false
def xK{x:Expr}(h:1<=(ey x).length)(lvl:Int): 1<=(c_ x lvl).length:=by unfold c_ ld;split<;>simp;exact h
def mA.of {x : Expr} (b : Nat) (hb : b <= 7) (hlv : ef x.op = b) (hpos : 1 <= (ey x).length)
    (bare:∀ (T:List Tok) (p:Nat),iA T p (ey x)->iV T (p+(ey x).length) b->Rd T x p (p+(ey x).length) b)
    (hc:∀ (T:List Tok) (p L:Nat),1<=L->L<=5->L≠3->b=L->iA T p (ey x)->iV T (p+(ey x).length) (L+1)-> ∀ f,8*(ey x).length+(8-L)<=f-> ∃ f',f<=f'+1+(ey x).length/\bY T f none L p=bY T f' (some x) L (p+(ey x).length))
    (hif:1<=b-> ∀(T:List Tok) (p:Nat),iA T p (ey x)->kA T p 1 [105,102]=false) (hneg:b=7-> ∀(T:List Tok) (p:Nat),iA T p (ey x)->kA T p 4 [45]=false):mA x:=by
 have a:∀ (T:List Tok) (p lvl:Nat) (i:Int),i=lvl->lvl<=7->iA T p (c_ x i)->iV T (p+(c_ x i).length) lvl->Rd T x p (p+(c_ x i).length) lvl:=by
  rintro T p lvl i rfl hl bR hs
  have hbase:∀ (p lvl:Nat),lvl<=b->iA T p (ey x)->iV T (p+(ey x).length) lvl->Rd T x p (p+(ey x).length) lvl:=fun p lvl hlb bR hs=>by
   refine(bare T p bR (hs.up hlb)).descend (by omega) hb ?_ ?_ lvl hlb hs
   ·by_cases h1:1<=b
    ·exact .inr (hif h1 T p bR)
    ·exact .inl (by omega)
   ·by_cases h7:b=7
    ·exact .inr (hneg h7 T p bR)
    ·exact .inl (by omega)
  unfold c_ at bR hs ⊢;rw[hlv]at bR hs ⊢;by_cases hlb:lvl<=b
  ·rw[pT (by omega)]at bR hs ⊢;exact hbase p lvl hlb bR hs
  ·rw[vL (by omega)]at bR hs ⊢;have hin:=iA.app.1 bR.2;have h0:Rd T x (p+1) (p+1+(ey x).length) 0:=hbase (p+1) 0 (bO _) hin.1 (iV.of hin.2 Gk 0);have h7:=Rd.paren bR h0;have hlen:((4,[40],0)::(ey x++[(4,[41],0)]):List TK).length=(ey x).length+2:=by simp
   rw[hlen]at hs ⊢;exact h7.descend (by omega) (Nat.le_refl _) (.inr (by rw[fJ bR];decide)) (.inr (by rw[fJ bR];decide)) lvl hl hs
 refine⟨hpos,a,?_,?_⟩
 ·rintro T p L i rfl h1 h5 h3 bR hs f hf;by_cases I3:b=L
  ·unfold c_ at bR hs hf ⊢;rw[hlv,I3,pT (by omega)]at bR hs hf ⊢;exact hc T p L h1 h5 h3 I3 bR hs f hf
  ·have hw : c_ x (L : Int) = c_ x ((L + 1 : Nat) : Int) := by
    unfold c_ ld;rw[hlv];dsimp only;by_cases h:(b:Int)<L
    ·rw[if_pos h,if_pos (by omega)]
    ·rw[if_neg h,if_neg (by omega)]
   have:=a T p (L+1) _ rfl (by omega) (hw ▸ bR) (hw ▸ hs);rw[<-hw]at this;obtain⟨f,rfl⟩:∃ k,f=k+1:=⟨f-1,by omega⟩;have h2:=this f (by omega);refine⟨f,by omega,?_⟩;simp only[bY];rw[if_neg (by omega),if_neg (by omega),if_neg (by omega),h2];simp
 ·intro T p lvl hl bR;unfold c_ at bR;rw[hlv]at bR;by_cases hlb:(b:Int)<lvl
  ·rw[vL hlb]at bR;rw[fJ bR];decide
  ·rw[pT hlb]at bR;exact hif (by omega) T p bR
def Ek{v:aL}(hr:br v=true)(h1:v.kind≠1)(h2:v.kind≠2): sL v=(1,(sL v).2.1,0)/\t_ (sL v).2.1=some v/\(sL v).2.1≠[105,102]:=by
 obtain⟨k,n,s⟩:=v;dsimp only at h1 h2;unfold br at hr;dsimp only at hr;unfold sL;dsimp only;rw[if_neg h1,if_neg h2]at hr ⊢;by_cases h0:k=0
 ·rw[if_pos h0]at hr;simp only[aj,decide_eq_true_eq]at hr;subst h0;obtain⟨rfl,rfl⟩:=hr;rw[if_neg (by decide)];exact⟨rfl,rfl,by decide⟩
 ·rw[if_neg h0]at hr;split at hr
  ·rename_i h3;simp only[aj,bU,decide_eq_true_eq]at hr;obtain⟨rfl,hr⟩:=hr;subst h3;rw[if_pos rfl];rcases hr with rfl|rfl
   ·exact⟨rfl,rfl,by decide⟩
   ·exact⟨rfl,rfl,by decide⟩
  ·cases hr
def Vz{s:aO}(h:jU s=true): t_ s=none/\s≠[105,102]:=by
 simp only[jU,aj,cy,zf]at h;have h2:=h.2;have hne:∀ w ∈ DW,s≠w:=fun w hw e=>by subst e;rw[List.contains_iff_mem.2 hw]at h2;cases h2
 refine⟨?_,hne _ (by decide)⟩;unfold t_;rw[if_neg (hne _ (by decide)),if_neg (hne _ (by decide)),if_neg (hne _ (by decide))]
def aaO{v:aL}(hr:br v=true)(hn:v.kind≠1\/0<=v.n): mA (.mk 1 v [] []):=by
 have ht:ey (.mk 1 v [] [])=[sL v]:=by simp[ey,lF]
 have hk:v.kind=1/\sL v=(2,[],v.n)/\v=⟨1,v.n,[]⟩\/v.kind=2/\sL v=(3,v.s,0)/\v=⟨2,0,v.s⟩\/(v.kind≠1/\v.kind≠2):=by
  obtain⟨k,n,s⟩:=v;unfold br at hr;dsimp only at hr;by_cases h1:k=1
  ·subst h1;left;rw[if_neg (by decide),if_pos rfl]at hr;simp only[decide_eq_true_eq]at hr;subst hr;exact⟨rfl,rfl,rfl⟩
  by_cases h2:k=2
  ·subst h2;right;left;rw[if_neg (by decide),if_neg (by decide),if_pos rfl]at hr;simp only[aj,decide_eq_true_eq]at hr;obtain⟨rfl,_⟩:=hr;exact⟨rfl,rfl,rfl⟩
  ·exact .inr (.inr ⟨h1,h2⟩)
 refine mA.of 7 (Nat.le_refl _) rfl (by rw[ht];simp) ?_ (fun T p L h1 h5 _ e=>by omega) ?_ ?_
 ·intro T p bR hs f hf;rw[ht]at bR hs hf ⊢;obtain⟨f,rfl⟩:∃ k,f=k+1:=⟨f-1,by simp at hf;omega⟩;obtain⟨a1,a2,a3⟩:=Tn bR;have e1:=fJ bR 4 [40];simp only[bY];rw[if_neg (by omega),if_neg (by omega),if_pos (by omega)];unfold nh;rcases hk with⟨_,k2,k3⟩|⟨_,k2,k3⟩|⟨k1,k2⟩
  ·rw[k2]at a1 a2 a3 e1;dsimp only at a1 a2 a3 e1;rw[e1,if_neg (by simp),if_pos a1,a3,<-k3];rfl
  ·rw[k2]at a1 a2 a3 e1;dsimp only at a1 a2 a3 e1;rw[e1,if_neg (by simp),if_neg (by omega),if_pos a1,a2,<-k3];rfl
  ·obtain⟨w1,w2,w3⟩:=Ek hr k1 k2;rw[w1]at a1 a2 a3 e1;dsimp only at a1 a2 a3 e1;rw[e1,if_neg (by simp),if_neg (by omega),if_neg (by omega),if_pos a1,a2,w2];rfl
 ·intro _ T p bR;rw[ht]at bR;rw[fJ bR];rcases hk with⟨_,k2,k3⟩|⟨_,k2,k3⟩|⟨k1,k2⟩
  ·rw[k2];rfl
  ·rw[k2];rfl
  ·have:=(Ek hr k1 k2).2.2;simp[this]
 ·intro _ T p bR;rw[ht]at bR;rw[fJ bR];rcases hk with⟨_,k2,k3⟩|⟨_,k2,k3⟩|⟨k1,k2⟩
  ·rw[k2];rfl
  ·rw[k2];rfl
  ·rw[(Ek hr k1 k2).1];rfl
def adl{s:aO}(hs:jU s=true): mA (.mk 2 v0 s []):=by
 have ht:ey (.mk 2 v0 s [])=[(1,s,0)]:=by simp[ey,lF]
 obtain⟨n1,n2⟩:=Vz hs;refine mA.of 7 (Nat.le_refl _) rfl (by rw[ht];simp) ?_ (fun T p L h1 h5 _ e=>by omega) ?_ ?_
 ·intro T p bR _ f hf;rw[ht]at bR hf ⊢;obtain⟨f,rfl⟩:∃ k,f=k+1:=⟨f-1,by simp at hf;omega⟩;obtain⟨a1,a2,a3⟩:=Tn bR;have e1:=fJ bR 4 [40];dsimp only at a1 a2 a3 e1;simp only[bY];rw[if_neg (by omega),if_neg (by omega),if_pos (by omega)];unfold nh;rw[e1,if_neg (by simp),if_neg (by omega),if_neg (by omega),if_pos a1,a2,n1];dsimp only;rw[if_pos hs];rfl
 ·intro _ T p bR;rw[ht]at bR;rw[fJ bR];simp[n2]
 ·intro _ T p bR;rw[ht]at bR;rw[fJ bR];rfl
def afj{a:Expr}(ha:mA a): mA (.mk 3 v0 [] [a]):=by
 have ht:ey (.mk 3 v0 [] [a])=(4,[45],0)::c_ a 6:=by simp[ey,uo,lF,c_]
 refine mA.of 6 (by omega) rfl (by rw[ht];simp) ?_ (fun T p L h1 h5 _ e=>by omega) ?_ (fun e=>by omega)
 ·intro T p bR hs f hf;rw[ht]at bR hs hf ⊢;rw[List.length_cons]at hs hf ⊢;obtain⟨f,rfl⟩:∃ k,f=k+1:=⟨f-1,by omega⟩;have e1:kA T p 4 [45]=true:=by rw[fJ bR];rfl
  have h1:=ha.a T (p+1) 6 6 rfl (by omega) bR.2 (by rw[show p+1+(c_ a 6).length=p+((c_ a 6).length+1) by omega];exact hs) f (by omega);simp only[bY];rw[if_neg (by omega),if_pos ⟨trivial,e1⟩,h1];simp;omega
 ·intro _ T p bR;rw[ht]at bR;rw[fJ bR];rfl
def agM{a b c:Expr}(ha:mA a)(hb:mA b)(hc:mA c): mA (.mk 16 v0 [] [a,b,c]):=by
 have ht:ey (.mk 16 v0 [] [a,b,c])=P7::(c_ a 0++(A0::(c_ b 0++(A1::c_ c 0)))):=by simp[ey,uo,lF,c_]
 refine mA.of 0 (by omega) rfl (by rw[ht];simp) ?_ (fun T p L h1 h5 _ e=>by omega) (fun e=>by omega) (fun e=>by omega);intro T p bR hs f hf;rw[ht]at bR hs hf ⊢;simp only[List.length_cons,List.length_append]at hs hf ⊢;obtain⟨f,rfl⟩:∃ k,f=k+1:=⟨f-1,by omega⟩;have e1:kA T p 1 [105,102]=true:=by rw[fJ bR];rfl
 obtain⟨q1,q2⟩:=iA.app.1 bR.2;obtain⟨q3,q4⟩:=iA.app.1 q2.2;have h1:=ha.a T (p+1) 0 0 rfl (by omega) q1 (iV.of q2 Vw 0) f (by omega);have h2:=hb.a T (p+1+(c_ a 0).length+1) 0 0 rfl (by omega) q3 (iV.of q4 Vx 0) f (by omega);have h3:=hc.a T (p+1+(c_ a 0).length+1+(c_ b 0).length+1) 0 0 rfl (by omega) q4.2 (by rw[show p+1+(c_ a 0).length+1+(c_ b 0).length+1+(c_ c 0).length=p+((c_ a 0).length+((c_ b 0).length+((c_ c 0).length+1)+1)+1) by omega];exact hs) f (by omega);have o1:fc T (p+1+(c_ a 0).length) false 1 thenS=true:=by unfold fc;rw[fJ q2];rfl
 have o2:fc T (p+1+(c_ a 0).length+1+(c_ b 0).length) false 1 zi=true:=by unfold fc;rw[fJ q4];rfl
 have eA:nH (fun l q=>bY T f none l q) T (p+1)=⟨a,p+1+(c_ a 0).length+1,false⟩:=by
  rw[show nH (fun l q=>bY T f none l q) T (p+1)=jO T (bY T f none 0 (p+1)) 1 thenS from rfl,h1];unfold jO qh;dsimp only;rw[o1];rfl
 have eB:ua (fun l q=>bY T f none l q) T (p+1)=⟨b,p+1+(c_ a 0).length+1+(c_ b 0).length+1,false⟩:=by
  unfold ua;rw[eA,show ∀ q,qF (fun l q=>bY T f none l q) 0 q false=bY T f none 0 q from fun _=>rfl,h2];unfold jO qh;dsimp only;rw[o2];rfl
 have eC:AJ (fun l q=>bY T f none l q) T (p+1)=⟨c,p+1+(c_ a 0).length+1+(c_ b 0).length+1+(c_ c 0).length,false⟩:=by
  unfold AJ;rw[eB,show ∀ q,qF (fun l q=>bY T f none l q) 0 q false=bY T f none 0 q from fun _=>rfl,h3]
 simp only[bY];rw[if_pos trivial,if_pos e1];unfold I6;rw[eA,eB,eC];dsimp only
 congr 1;omega
def afk{op:Int}{a b:Expr}(o1:4<=op)(o2:op<=15)(Ee:1<=(cn op).level)(Tf:(cn op).level<=5)(yu:ef op=(cn op).level)(hop:(cn op).op=op)(hmem:cn op ∈ jh)(ha:mA a)(hb:mA b): mA (.mk op v0 [] [a,b]):=by
 have ht:ey (.mk op v0 [] [a,b])=c_ a (if(cn op).level=3 then 4 else(cn op).level)++(B_ op::c_ b ((cn op).level+1)):=by
  simp only[ey,uo,lF];rw[if_neg (by omega),if_neg (by omega),if_neg (by omega),if_neg (by omega)];rfl
 have Pw:∀ l,P9 (B_ op) l=if(cn op).level=l then some (cn op)else none:=fun l=>aaN hmem 0 l
 obtain⟨L,hL⟩:∃ L:Nat,(cn op).level=L:=⟨(cn op).level.toNat,by omega⟩;rw[hL]at ht yu Ee Tf;have e1:((L:Int)+1)=((L+1:Nat):Int):=by omega
 rw[e1]at ht;have pb:=xK hb.pos ((L+1:Nat):Int)
 have hC:∀ (T:List Tok) (p:Nat),L≠3->iA T p (ey (.mk op v0 [] [a,b]))->iV T (p+(ey (.mk op v0 [] [a,b])).length) (L+1)-> ∀ f,8*(ey (.mk op v0 [] [a,b])).length+(8-L)<=f-> ∃ f',f<=f'+1+(ey (.mk op v0 [] [a,b])).length/\bY T f none L p=bY T f' (some (.mk op v0 [] [a,b])) L (p+(ey (.mk op v0 [] [a,b])).length):=by
  intro T p h3 bR hs f hf;rw[if_neg (by omega)]at ht;rw[ht]at bR hs hf ⊢;simp only[List.length_cons,List.length_append]at hs hf ⊢;obtain⟨q1,q2⟩:=iA.app.1 bR;have pa:=xK ha.pos (L:Int);have hst:iV T (p+(c_ a (L:Int)).length) (L+1):=fun l hl=>by rw[Ej q2,Pw,if_neg (by omega)]
  obtain⟨f1,r1,r2⟩:=ha.c T p L _ rfl (by omega) (by omega) h3 q1 hst f (by omega);obtain⟨f1,rfl⟩:∃ k,f1=k+1:=⟨f1-1,by omega⟩;have h2:=hb.a T (p+(c_ a (L:Int)).length+1) (L+1) _ rfl (by omega) q2.2 (by rw[show p+(c_ a (L:Int)).length+1+(c_ b ((L+1:Nat):Int)).length=p+((c_ a (L:Int)).length+((c_ b ((L+1:Nat):Int)).length+1)) by omega];exact hs) f1 (by omega);refine⟨f1,by omega,?_⟩;rw[r2];have ho:tj T (p+(c_ a (L:Int)).length) false (L:Int)=some (cn op):=by rw[Ej q2,Pw,if_pos hL]
  simp only[bY,ho,h2];rw[if_neg (by simp;omega),hop]
  congr 1;omega
 refine mA.of L (by omega) yu (by rw[ht];simp;omega) ?_ (fun T p L' _ _ h3 e=>by subst e;exact hC T p h3) ?_ (fun e=>by omega)
 ·intro T p bR hs f hf;by_cases h3:L=3
  ·rw[if_pos (by omega)]at ht;rw[ht]at bR hs hf ⊢;simp only[List.length_cons,List.length_append]at hs hf ⊢;obtain⟨q1,q2⟩:=iA.app.1 bR;have hst:iV T (p+(c_ a 4).length) 4:=fun l hl=>by rw[Ej q2,Pw,if_neg (by omega)]
   obtain⟨f,rfl⟩:∃ k,f=k+1:=⟨f-1,by omega⟩;obtain⟨f,rfl⟩:∃ k,f=k+1:=⟨f-1,by omega⟩;have h1:=ha.a T p 4 4 rfl (by omega) q1 hst (f+1) (by omega);have h2:=hb.a T (p+(c_ a 4).length+1) (L+1) _ rfl (by omega) q2.2 (by rw[show p+(c_ a 4).length+1+(c_ b ((L+1:Nat):Int)).length=p+((c_ a 4).length+((c_ b ((L+1:Nat):Int)).length+1)) by omega];exact hs.up (by omega)) f (by omega);have ho:tj T (p+(c_ a 4).length) false (L:Int)=some (cn op):=by rw[Ej q2,Pw,if_pos hL]
   subst h3;rw[bY.eq_def];dsimp only;rw[if_neg (by omega),if_neg (by omega),if_neg (by omega),h1];dsimp only;rw[if_neg (by simp)];simp only[bY,ho,h2];rw[if_pos (.inl trivial),hop]
   congr 1;omega
  ·have Lu:=hs.up (Nat.le_succ L);obtain⟨f',r1,r2⟩:=hC T p h3 bR Lu f (by omega);rw[r2];exact rd_some (by omega) (hs L (Nat.le_refl _))
 ·intro _ T p bR;rw[ht]at bR;obtain⟨q1,_⟩:=iA.app.1 bR;by_cases h3:L=3
  ·rw[if_pos (by omega)]at q1;exact ha.f T p 4 (by omega) q1
  ·rw[if_neg (by omega)]at q1;exact ha.f T p L (by omega) q1
def Jl(x:Expr): cq x=true->mA x:=by
 induction x using Expr.ind with
 | h op v s l ih =>
   intro hr;rcases mI hr with⟨rfl,rfl,rfl,h1,h2⟩|⟨rfl,rfl,rfl,h1⟩|⟨rfl,rfl,rfl,a,rfl,ha⟩|⟨rfl,rfl,rfl,a,b,c,rfl,ha,hb,hc⟩|⟨o1,o2,rfl,rfl,Ee,Tf,yu,hop,hmem,a,b,rfl,ha,hb⟩
   ·exact aaO h1 h2
   ·exact adl h1
   ·exact afj (ih a (by simp) ha)
   ·exact agM (ih a (by simp) ha) (ih b (by simp) hb) (ih c (by simp) hc)
   ·exact afk o1 o2 Ee Tf yu hop hmem (ih a (by simp) ha) (ih b (by simp) hb)
def P_{T:List Tok}{x:Expr}{p lvl:Nat}(hr:cq x=true)(hl:lvl<=7)(bR:iA T p (c_ x lvl))(hp:p<=T.length)(hs:iV T (p+(c_ x lvl).length) lvl)(hlen:p+(c_ x lvl).length<=T.length): iw T p lvl=(x,((p+(c_ x lvl).length:Nat):Int),0):=by
 have h:=(Jl x hr).a T p lvl _ rfl hl bR hs (8*T.length+9) (by omega);unfold iw;rw[if_neg (by omega),eL,eL,h];rfl
def VA(x:Expr)(h0:(nK x).2=0)(hx:ig x): (nK x).1=dR x/\iH (nK x).1=(x,0,0)/\cq x=true/\kV x<=12:=by
 have hr:cq x=true:=by
  cases hq:cq x with
  | true=>rfl
  | false=>unfold nK at h0;rw[if_pos hq]at h0;exact absurd h0 (by decide)
 have hd:kV x<=12:=by
  apply fF;intro hq;unfold nK at h0;rw[hr,if_neg (by simp),if_pos hq]at h0;exact absurd h0 (by decide)
 have hb:(dR x).length<=200:=by
  apply fF;intro hq;unfold nK at h0;rw[hr,if_neg (by simp),if_neg (by omega),if_pos (by simp[ow,hq])]at h0;exact absurd h0 (by decide)
 have ht:nK x=(dR x,0):=by
  unfold nK;rw[hr,if_neg (by simp),if_neg (by omega),if_neg (by simp[ow];omega)]
 refine⟨by rw[ht],?_,hr,hd⟩;rw[ht];dsimp only;obtain⟨T,hT,hk⟩:=Fv (Tm x hr hx) hb
 have hw:c_ x ((0:Nat):Int)=ey x:=by
  have:=wJ hr;unfold c_;exact pT (by omega) _
 have hlen:(ey x).length=T.length:=by rw[<-hk];simp
 have bR:iA T 0 (c_ x ((0:Nat):Int)):=by rw[hw,<-hk];exact iA.map T 0 (bO _)
 have hrd:=P_ hr (bO _) bR (bO _) (iV.end (by rw[hw];omega) 0) (by rw[hw];omega);rw[hw,bF,hlen]at hrd;unfold iH;rw[hT];dsimp only;simp only[Int.natCast_zero]at hrd;rw[if_neg (by decide),hrd];dsimp only;rw[if_neg (by omega),if_neg (by decide),if_neg (by omega)]
def aaP(x:Expr): ∀ y,vI x y=true->x=y:=by
 induction x using Expr.ind with
 | h op v s l ih =>
   intro y h;obtain⟨o,w,u,m⟩:=y;simp only[vI,Expr.op,Expr.v,Expr.s,Expr.l,aj]at h;obtain⟨⟨⟨h1,h2⟩,h3⟩,h⟩:=h;obtain rfl:=of_decide_eq_true h1;obtain rfl:=of_decide_eq_true h2;obtain rfl:=of_decide_eq_true h3
   congr 1
   clear h1 h2 h3
   induction l generalizing m with
   | nil =>
     cases m with
     | nil=>rfl
     | cons y m=>simp[BU]at h
   | cons x l ihl =>
     cases m with
     | nil=>simp[BU]at h
     | cons y m =>
       simp only[BU,aj]at h;rw[ih x (by simp) y h.1,ihl (fun z hz=>ih z (bJ _ hz)) m h.2]
def aiL(k:Int)(s:aO): Prop:=(k=4/\s≠[40]/\s≠[45])\/(k=1/\s=zS)
def Mt(x:Expr): cq x=true-> ∀(T:List Tok) (p:Nat) (lvl:Int),iA T p (c_ x lvl)-> ∀ k s,aiL k s->kA T p k s=false:=by
 induction x using Expr.ind with
 | h op v s l ih =>
   intro hr T p lvl bR k w hw;by_cases hlv:ef op<lvl
   ·rw[show c_ (.mk op v s l) lvl=_ from vL hlv _]at bR;rw[fJ bR];rcases hw with⟨rfl,h1,h2⟩|⟨rfl,rfl⟩
    ·simp[Ne.symm h1]
    ·rfl
   ·rw[show c_ (.mk op v s l) lvl=_ from pT hlv _]at bR;rcases mI hr with⟨rfl,rfl,rfl,h1,h2⟩|⟨rfl,rfl,rfl,h1⟩|⟨rfl,rfl,rfl,a,rfl,ha⟩|⟨rfl,rfl,rfl,a,b,c,rfl,ha,hb,hc⟩|⟨o1,o2,rfl,rfl,Ee,Tf,yu,hop,hmem,a,b,rfl,ha,hb⟩
    ·rw[show ey (.mk 1 v [] [])=[sL v] by simp[ey,lF]]at bR;rw[fJ bR];unfold sL;rcases hw with⟨rfl,h1,h2⟩|⟨rfl,rfl⟩
     ·split
      ·rfl
      split
      ·rfl
      split<;>rfl
     ·split
      ·rfl
      split
      ·rfl
      split
      ·split<;>rfl
      ·rfl
    ·rw[show ey (.mk 2 v0 s [])=[(1,s,0)] by simp[ey,lF]]at bR;rw[fJ bR];rcases hw with⟨rfl,_,_⟩|⟨rfl,rfl⟩
     ·rfl
     ·have:s≠zS:=fun e=>by subst e;revert h1;decide
      simp[this]
    ·rw[show ey (.mk 3 v0 [] [a])=(4,[45],0)::c_ a 6 by simp[ey,uo,lF,c_]]at bR;rw[fJ bR];rcases hw with⟨rfl,h1,h2⟩|⟨rfl,rfl⟩
     ·simp[Ne.symm h2]
     ·rfl
    ·rw[show ey (.mk 16 v0 [] [a,b,c])=P7::(c_ a 0++(A0::(c_ b 0++(A1::c_ c 0)))) by simp[ey,uo,lF,c_]]at bR;rw[fJ bR];rcases hw with⟨rfl,_,_⟩|⟨rfl,rfl⟩<;>rfl
    ·have ht : ey (.mk op v0 [] [a, b]) = c_ a (if (cn op).level = 3 then 4 else (cn op).level) ++ (B_ op :: c_ b ((cn op).level + 1)) := by
      simp only[ey,uo,lF];rw[if_neg (by omega),if_neg (by omega),if_neg (by omega),if_neg (by omega)];rfl
     rw[ht]at bR;exact ih a (by simp) ha T p _ (iA.app.1 bR).1 k w hw
def aaQ(x:Expr): cq x=true-> ∀(T:List Tok) (p:Nat) (lvl:Int),iA T p (c_ x lvl)->kA T p 4 [45]=true->2<=(c_ x lvl).length:=by
 intro hr T p lvl bR h;obtain⟨op,v,s,l⟩:=x;by_cases hlv:ef op<lvl
 ·rw[show c_ (.mk op v s l) lvl=_ from vL hlv _];simp
 ·have e:c_ (.mk op v s l) lvl=ey (.mk op v s l):=pT hlv _;rw[e]at bR ⊢;have r:=fun y hy=>(Jl y hy).pos;rcases mI hr with⟨rfl,rfl,rfl,h1,h2⟩|⟨rfl,rfl,rfl,h1⟩|⟨rfl,rfl,rfl,a,rfl,ha⟩|⟨rfl,rfl,rfl,a,b,c,rfl,ha,hb,hc⟩|⟨o1,o2,rfl,rfl,Ee,Tf,yu,hop,hmem,a,b,rfl,ha,hb⟩
  ·exfalso;rw[show ey (.mk 1 v [] [])=[sL v] by simp[ey,lF]]at bR;rw[fJ bR]at h;unfold sL at h;split at h
   ·simp at h
   split at h
   ·simp at h
   split at h<;>simp at h
  ·exfalso;rw[show ey (.mk 2 v0 s [])=[(1,s,0)] by simp[ey,lF]]at bR;rw[fJ bR]at h;simp at h
  ·rw[show ey (.mk 3 v0 [] [a])=(4,[45],0)::c_ a 6 by simp[ey,uo,lF,c_]];have:=xK (r a ha) 6;rw[List.length_cons];omega
  ·rw[show ey (.mk 16 v0 [] [a,b,c])=P7::(c_ a 0++(A0::(c_ b 0++(A1::c_ c 0)))) by simp[ey,uo,lF,c_]];simp;omega
  ·have ht : ey (.mk op v0 [] [a, b]) = c_ a (if (cn op).level = 3 then 4 else (cn op).level) ++ (B_ op :: c_ b ((cn op).level + 1)) := by
    simp only[ey,uo,lF];rw[if_neg (by omega),if_neg (by omega),if_neg (by omega),if_neg (by omega)];rfl
   rw[ht,List.length_append,List.length_cons];have:=xK (r a ha) (if(cn op).level=3 then 4 else(cn op).level);omega
def VB: TK:=(4,[46,46],0)
def Qa: TK:=(4,[44],0)
def mB(t:Test): List TK:=if t.kind=1 then c_ t.a 4 else if t.kind=6 then(4,CP t,0)::(c_ t.a 4++(VB::(c_ t.b 4++[(4,wU t,0)])))else (4,kf t.kind,0)::c_ t.a 4
def uq{t:Test}(h:jH t=true): (t.kind=6/\cq t.a=true/\cq t.b=true)\/(1<=t.kind/\t.kind<=5/\cq t.a=true/\t.b=x0/\t.lo=false/\t.hi=false):=by
 unfold jH at h;split at h
 ·rename_i h6;simp only[nJ,aj]at h;exact .inl ⟨h6,h.1.1,h.2.1⟩
 ·simp only[nJ,aj,decide_eq_true_eq,cy]at h;obtain⟨⟨⟨⟨h1,h2⟩,h3⟩,h4⟩,h5⟩:=h;exact .inr ⟨h1.1,h1.2,h2.1,aaP _ _ h3,h4,h5⟩
def Tp{t:Test}(h:jH t=true)(ho:uj t): Lx Bd (testW t) (mB t):=by
 have hw:∀ x,cq x=true->ig x->Lx Bd (kS x 4) (c_ x 4):=fun x hr hx=>P8 (Tm x hr hx) _ _;unfold testW mB;rcases uq h with⟨h6,ha,hb⟩|⟨h1,h5,ha,_⟩
 ·rw[if_neg (show ¬ t.kind=1 by omega),if_pos h6,if_neg (show ¬ t.kind=1 by omega),if_pos h6];have hlo:Lx B0 (CP t) [(4,CP t,0)]:=pS (by unfold CP;split<;>decide);have hhi:Lx B0 (wU t) [(4,wU t,0)]:=pS (by unfold wU;split<;>decide);have hbd:∀ r,B0 r->Bd (wU t++r):=fun r _=>by unfold wU;split<;>exact oC (by decide)
  have:=(((hlo.app (hw _ ha ho.1.1) (fun _ _=>trivial)).app (pS (m:=[46,46]) (by decide)) (fun r _=>oC (by decide))).app (hw _ hb ho.2.1) (fun _ _=>trivial)).app hhi hbd;exact(by simpa[VB]using this.weak (B':=Bd) (fun _ _=>trivial))
 ·by_cases hk:t.kind=1
  ·rw[if_pos hk,if_pos hk];exact hw _ ha ho.1.1
  ·rw[if_neg hk,if_neg hk,if_neg (by omega),if_neg (by omega)]
   have hs:Lx Bs (kf t.kind) [(4,kf t.kind,0)]:=Tl (by
    rcases(by omega:t.kind=2\/t.kind=3\/t.kind=4\/t.kind=5)with e|e|e|e<;>rw[e]<;>decide)
   have:=((hs.app (Lx.sp B0) (fun r _=>rfl)).app (hw _ ha ho.1.1) (fun _ _=>trivial));simpa using this
def Ca{T:List Tok}{x:Expr}{p:Nat}(hr:cq x=true)(bR:iA T p (c_ x 4))(hs:iV T (p+(c_ x 4).length) 4)(hp:p+(c_ x 4).length<=T.length): jb T p false=⟨x,p+(c_ x 4).length,false⟩:=by
 have h4:((4:Nat):Int)=4:=rfl;have:=P_ (lvl:=4) hr (by omega) (by rw[h4];exact bR) (by omega) (by rw[h4];exact hs) (by rw[h4];exact hp);rw[h4]at this;rw[Gc];unfold S_;rw[h4,this];simp;omega
def iA.le{T:List Tok}{ks:List TK}: ∀ {p:Nat},iA T p ks->p<=T.length->p+ks.length<=T.length:=by
 induction ks with
 | nil=>intro p _ hp;exact hp
 | cons k ks ih=>intro p h hp;rw[List.length_cons];have:=ih h.2 h.1.1;omega
def Tq{T:List Tok}{t:Test}{p:Nat}(h:jH t=true)(hp:p<=T.length)(bR:iA T p (mB t))(hs:iV T (p+(mB t).length) 4): fP T p false=⟨t,p+(mB t).length,false⟩:=by
 have hle:=bR.le hp;obtain⟨k,a,b,lo,hi⟩:=t;rcases uq h with⟨h6,ha,hb⟩|⟨h1,h5,ha,h2,h3,h4⟩
 ·dsimp only at h6 ha hb;subst h6;have ht:mB ⟨6,a,b,lo,hi⟩=(4,CP ⟨6,a,b,lo,hi⟩,0)::(c_ a 4++(VB::(c_ b 4++[(4,wU ⟨6,a,b,lo,hi⟩,0)]))):=rfl;rw[ht]at bR hle ⊢;simp only[List.length_cons,List.length_append,List.length_nil]at hle ⊢;have o:∀ s,fc T p false 4 s=decide (CP ⟨6,a,b,lo,hi⟩=s):=fun s=>by unfold fc;rw[fJ bR];simp
  obtain⟨q1,q2⟩:=iA.app.1 bR.2;obtain⟨q3,q4⟩:=iA.app.1 q2.2;have r1:=Ca ha q1 (iV.of q2 Vy 4) (by omega);have hq:quiet (4,wU ⟨6,a,b,lo,hi⟩,0):=by unfold wU;dsimp only;split<;>first|exact aaL|exact aaM
  have r2:=Ca hb q3 (iV.of q4 hq 4) (by omega);have o2:fc T (p+1+(c_ a 4).length) false 4 [46,46]=true:=by unfold fc;rw[fJ q2];rfl
  have e1:vt T p=⟨a,p+1+(c_ a 4).length,false⟩:=r1
  have e2:ud T p=⟨a,p+1+(c_ a 4).length+1,false⟩:=by
   unfold ud jO qh;rw[e1];dsimp only;rw[o2];rfl
  have e3:lM T p=⟨b,p+1+(c_ a 4).length+1+(c_ b 4).length,false⟩:=by
   unfold lM;rw[e2];exact r2
  have o3:∀ s,fc T (p+1+(c_ a 4).length+1+(c_ b 4).length) false 4 s=decide (wU ⟨6,a,b,lo,hi⟩=s):=fun s=>by unfold fc;rw[fJ q4];simp
  have e4:XK T p=hi:=by
   unfold XK;rw[e3];dsimp only;rw[o3];unfold wU;dsimp only;cases hi<;>rfl
  have e5:(vu T p).p=p+1+(c_ a 4).length+1+(c_ b 4).length+1/\(vu T p).bad=false:=by
   unfold vu;rw[e4];cases hi with
   | true=>rw[if_pos rfl,e3];exact⟨rfl,rfl⟩
   | false =>
     rw[if_neg (by simp),e3];unfold jO qh;dsimp only;rw[o3];exact⟨rfl,rfl⟩
  have e6:Gd T p lo=⟨⟨6,a,b,lo,hi⟩,p+((c_ a 4).length+((c_ b 4).length+(0+1)+1)+1),false⟩:=by
   unfold Gd;rw[e1,e3,e4,e5.1,e5.2];dsimp only
   congr 1
   omega
  unfold fP;rw[o,o,o,o,o,o];unfold CP;dsimp only;cases lo with
  | false=>exact e6
  | true=>exact e6
 ·dsimp only at h1 h5 ha h2 h3 h4;subst h2;subst h3;subst h4;by_cases hk:k=1
  ·subst hk;have ht:mB ⟨1,a,x0,false,false⟩=c_ a 4:=rfl;rw[ht]at bR hle hs ⊢
   have o:∀ s,s≠[40]->s≠[45]->fc T p false 4 s=false:=fun s a1 a2=>by
    unfold fc;rw[Mt a ha T p 4 bR 4 s (.inl ⟨rfl,a1,a2⟩)];rfl
   have r:=Ca ha bR hs hle;unfold fP;rw[o _ (by decide) (by decide),o _ (by decide) (by decide),o _ (by decide) (by decide),o _ (by decide) (by decide),o _ (by decide) (by decide),o _ (by decide) (by decide),r];rfl
  ·have ht : mB ⟨k, a, x0, false, false⟩ = (4, kf k, 0) :: c_ a 4 := by
    unfold mB;dsimp only;rw[if_neg hk,if_neg (by omega)]
   rw[ht]at bR hle hs ⊢;rw[List.length_cons]at hle hs ⊢;have o:∀ s,fc T p false 4 s=decide (kf k=s):=fun s=>by unfold fc;rw[fJ bR];simp
   have r:=Ca ha bR.2 (by rw[show p+1+(c_ a 4).length=p+((c_ a 4).length+1) by omega];exact hs) (by omega)
   have e:qI k (jb T (p+1) false)=⟨⟨k,a,x0,false,false⟩,p+((c_ a 4).length+1),false⟩:=by
    rw[r];unfold qI;dsimp only;congr 1;omega
   unfold fP;rw[o,o,o,o,o,o];rcases(by omega:k=2\/k=3\/k=4\/k=5)with rfl|rfl|rfl|rfl<;>exact e
def Cb(l:List Test): List TK:=l.flatMap fun t=>Qa::mB t
def lG: List Test->List TK
 | []=>[]
 | t::r=>mB t++Cb r
def Cc(l:List Test): aO:=l.flatMap fun t=>wK++testW t
def VC(t:Test)(r:List Test): sr (t::r)=testW t++Cc r:=by
 unfold sr Lib.join Cc
 induction r generalizing t with
 | nil=>simp[List.intercalate]
 | cons u r ih =>
   have h2:=ih u;simp only[bf,fh]at h2 ⊢;rw[List.intercalate_cons_cons,h2,aP,aP]
def aaR(l:List Test): (∀ t ∈ l,jH t=true/\uj t)->Lx Bd (Cc l) (Cb l):=by
 induction l with
 | nil=>intro _;exact Lx.nil _
 | cons t l ih =>
   intro h;have ht:=h t (by simp);have i:=ih (fun u hu=>h u (bJ _ hu));unfold Cc Cb;rw[fh,fh]
   have hb:∀ r,Bd r->Bd (Cc l++r):=fun r hr=>by
    cases l with
    | nil=>exact hr
    | cons u l=>exact oC (by decide)
   have:=(((pS (m:=[44]) (by decide)).app (Lx.sp B0) (fun _ _=>trivial)).app (Tp ht.1 ht.2) (fun _ _=>trivial)).app i hb;simpa[wK,Qa,Cc,Cb]using this
def adn{l:List Test}(hl:l≠[])(h:∀ t ∈ l,jH t=true/\uj t): Lx Bd (sr l) (lG l):=by
 cases l with
 | nil=>exact absurd rfl hl
 | cons t l =>
   rw[VC];have ht:=h t (by simp)
   have hb:∀ r,Bd r->Bd (Cc l++r):=fun r hr=>by
    cases l with
    | nil=>exact hr
    | cons u l=>exact oC (by decide)
   exact(Tp ht.1 ht.2).app (aaR l (fun u hu=>h u (bJ _ hu))) hb
def aaS(T:List Tok)(p:Nat): Prop:=fc T p false 4 [44]=false/\iV T p 4
def Qb{T:List Tok}(l:List Test): ∀(t:Test) (acc:List Test) (p f:Nat),(∀ u ∈ t::l,jH u=true)->p<=T.length->iA T p (lG (t::l))->aaS T (p+(lG (t::l)).length)->l.length<f->qJ T f acc p false=⟨acc++t::l,p+(lG (t::l)).length,false⟩:=by
 induction l with
 | nil =>
   intro t acc p f h hp bR he hf;obtain⟨f,rfl⟩:∃ k,f=k+1:=⟨f-1,by simp at hf;omega⟩;simp only[lG,Cb,List.flatMap_nil,bB]at bR he ⊢;rw[pP,Tq (h t (by simp)) hp bR he.2];dsimp only;rw[he.1];rfl
 | cons u l ih =>
   intro t acc p f h hp bR he hf;obtain⟨f,rfl⟩:∃ k,f=k+1:=⟨f-1,by simp at hf;omega⟩;have e:lG (t::u::l)=mB t++(Qa::lG (u::l)):=by simp[lG,Cb]
   rw[e]at bR he ⊢;simp only[List.length_append,List.length_cons]at he ⊢;obtain⟨q1,q2⟩:=iA.app.1 bR;rw[pP,Tq (h t (by simp)) hp q1 (iV.of q2 RY 4)];dsimp only;have o:fc T (p+(mB t).length) false 4 [44]=true:=by unfold fc;rw[fJ q2];rfl
   rw[o,if_pos rfl,ih u _ _ f (fun w hw=>h w (bJ _ hw)) q2.1.1 q2.2 (by rw[show p+(mB t).length+1+(lG (u::l)).length=p+((mB t).length+((lG (u::l)).length+1)) by omega];exact he) (by rw[List.length_cons]at hf;omega)]
   congr 1
   ·simp
   ·omega
def Yg(l:List Test): (∀ t ∈ l,jH t=true)->l.length<=(lG l).length:=by
 have pt:∀ t,jH t=true->1<=(mB t).length:=fun t h=>by
  unfold mB;split
  ·rcases uq h with⟨h6,_⟩|⟨_,_,ha,_⟩
   ·omega
   ·exact xK (Jl _ ha).pos 4
  ·split<;>simp
 have pr:∀ l:List Test,l.length<=(Cb l).length:=fun l=>by
  induction l with
  | nil=>simp
  | cons t l ih=>unfold Cb at ih ⊢;rw[List.flatMap_cons,List.length_append,List.length_cons,List.length_cons];omega
 intro h;cases l with
 | nil=>simp
 | cons t l =>
   have:=pt t (h t (by simp));have:=pr l;simp only[lG,List.length_append,List.length_cons];omega
def VD(c:Cell)(h0:(n8 c).2=0)(hx:oA c): i_ (n8 c).1=(c,0,0)/\gP c=true:=by
 have hr:gP c=true:=by
  cases hq:gP c with
  | true=>rfl
  | false=>unfold n8 at h0;rw[if_pos hq]at h0;exact absurd h0 (by decide)
 refine⟨?_,hr⟩;obtain⟨any,neg,ts⟩:=c;cases any with
 | true =>
   have e:n8 ⟨true,neg,ts⟩=([45],0):=by unfold n8;rw[hr,if_neg (by simp),if_pos rfl]
   rw[e];unfold gP at hr;simp only[if_true,aj,cy,decide_eq_true_eq]at hr;obtain⟨rfl,h2⟩:=hr;have:ts=[]:=List.length_eq_zero_iff.1 h2;subst this;dsimp only;obtain⟨T,hT,hk⟩:=Fv ((pS (m:=[45]) (by decide)).weak (B':=Bd) (fun _ _=>trivial)) (by decide);have bR:iA T 0 [(4,[45],0)]:=by rw[<-hk];exact iA.map T 0 (bO _)
   have hl:T.length=1:=by rw[<-List.length_map (f:=tk),hk];rfl
   unfold i_;rw[hT];dsimp only;rw[if_neg (by decide),if_pos ⟨hl,by unfold fc;rw[fJ bR];rfl⟩];rfl
 | false =>
   have sS:=hr;unfold gP at hr;simp only[aG,if_false,aj,decide_eq_true_eq,cy,iQ]at hr;obtain⟨⟨l1,l2⟩,hs⟩:=hr;have hs:∀ t ∈ ts,jH t=true:=fun t ht=>by have:=hs t ht;simpa using this
   have hb:ts.any pX=false:=by
    cases hq:ts.any pX with
    | false=>rfl
    | true=>unfold n8 at h0;rw[sS,if_neg (by simp),if_neg (by simp),if_pos hq]at h0;exact absurd h0 (by decide)
   have hlen:(yx neg (sr ts)).length<=200:=by
    apply fF;intro hq;unfold n8 at h0;rw[sS,if_neg (by simp),if_neg (by simp),if_neg (by rw[hb];simp),if_pos hq]at h0;exact absurd h0 (by decide)
   have e:n8 ⟨false,neg,ts⟩=(yx neg (sr ts),0):=by
    unfold n8;rw[sS,if_neg (by simp),if_neg (by simp),if_neg (by dsimp only;rw[hb];simp),if_neg (by dsimp only;omega)]
   rw[e];dsimp only;obtain⟨t,l,rfl⟩:∃ t l,ts=t::l:=by cases ts with|nil=>simp at l1|cons t l=>exact⟨t,l,rfl⟩
   have hj:=adn (l:=t::l) (by simp) (fun u hu=>⟨hs u hu,hx.2 u hu⟩);have lJ:=Yg (t::l) hs;have hne:1<=(lG (t::l)).length:=by rw[List.length_cons]at lJ;omega
   cases neg with
   | false =>
     obtain⟨T,hT,hk⟩:=Fv (s:=yx false (sr (t::l))) hj hlen;have hTl:(lG (t::l)).length=T.length:=by rw[<-hk];simp
     have bR:iA T 0 (lG (t::l)):=by rw[<-hk];exact iA.map T 0 (bO _)
     have wM:iA T 0 (mB t):=(iA.app.1 (show iA T 0 (mB t++Cb l) from bR)).1;have Tj:=uq (hs t (by simp))
     have hnot:kA T 0 1 zS=false:=by
      rcases Tj with⟨h6,_⟩|⟨_,_,ha,_⟩
      ·unfold mB at wM;rw[if_neg (by omega),if_pos h6]at wM;rw[fJ wM];rfl
      ·unfold mB at wM;split at wM
       ·exact Mt _ ha T 0 4 wM 1 zS (.inr ⟨rfl,rfl⟩)
       ·rw[if_neg (by omega)]at wM;rw[fJ wM];rfl
     have hn:ot T=false:=by unfold ot;rw[hnot];simp
     have B7:¬ (T.length=1/\fc T 0 false 4 [45]=true):=by
      rintro⟨h1,h2⟩;have h2:kA T 0 4 [45]=true:=by simpa[fc]using h2
      have h3:(mB t).length<=1:=by have:=wM.le (bO _);omega
      rcases Tj with⟨h6,_⟩|⟨_,_,ha,_⟩
      ·unfold mB at h3;rw[if_neg (by omega),if_pos h6]at h3;simp at h3
      ·unfold mB at h3 wM;split at h3
       ·rename_i Lt;rw[if_pos Lt]at wM;have:=aaQ _ ha T 0 4 wM h2;omega
       ·rw[if_neg (by omega),List.length_cons]at h3;have:=xK (Jl _ ha).pos 4;omega
     have hend:aaS T (0+(lG (t::l)).length):=by
      refine⟨?_,iV.end (by omega) 4⟩;simp only[fc,kA,fX,fH,Bool.and_eq_false_iff,decide_eq_false_iff_not];left;omega
     have hts:=Qb l t [] 0 (T.length+1) hs (bO _) bR hend (by rw[List.length_cons]at lJ;omega);rw[cz,bF,hTl]at hts
     have LW:jt T=⟨t::l,T.length,false⟩:=by
      unfold jt Mi B3;rw[hn];simp only[aG,if_false];exact hts
     unfold i_;rw[hT];dsimp only;rw[if_neg (by decide),if_neg B7,LW];dsimp only;rw[if_neg (by omega),if_neg (by simp),if_neg (by omega),hn,sS,if_neg (by simp)]
   | true =>
     have uM:Lx Bd (yx true (sr (t::l))) ((1,zS,0)::(4,[40],0)::(lG (t::l)++[(4,[41],0)])):=by
      have:=(((xJ (s:=zS) (by decide) (by decide) (by decide)).app (pS (m:=[40]) (by decide)) (fun r _=>oC (by decide))).app hj (fun _ _=>trivial)).app ((pS (m:=[41]) (by decide)).weak (B':=Bd) (fun _ _=>trivial)) (fun r _=>oC (by decide));simpa[yx,zS]using this
     obtain⟨T,hT,hk⟩:=Fv uM hlen;have hTl:(lG (t::l)).length+3=T.length:=by rw[<-List.length_map (f:=tk),hk];simp
     have bR:iA T 0 ((1,zS,0)::(4,[40],0)::(lG (t::l)++[(4,[41],0)])):=by rw[<-hk];exact iA.map T 0 (bO _)
     have hn:ot T=true:=by
      unfold ot;rw[fJ bR,fJ bR.2];simp;omega
     obtain⟨q1,q2⟩:=iA.app.1 bR.2.2;have hend:aaS T (2+(lG (t::l)).length):=⟨by unfold fc;rw[fJ q2];rfl,iV.of q2 Gk 4⟩;have hts:=Qb l t [] 2 (T.length+1) hs (by omega) q1 hend (by rw[List.length_cons]at lJ;omega);rw[cz]at hts;have ho:fc T (2+(lG (t::l)).length) false 4 [41]=true:=by unfold fc;rw[fJ q2];rfl
     have LW:jt T=⟨t::l,T.length,false⟩:=by
      unfold jt Mi B3 qh;rw[hn];simp only[if_true];rw[hts];dsimp only;rw[ho];simp;omega
     unfold i_;rw[hT];dsimp only;rw[if_neg (by decide),if_neg (by omega),LW];dsimp only;rw[if_neg (by omega),if_neg (by simp),if_neg (by omega),hn,sS,if_neg (by simp)]
