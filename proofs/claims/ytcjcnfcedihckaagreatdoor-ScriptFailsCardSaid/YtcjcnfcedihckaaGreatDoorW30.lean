/- Part. -/
import Derived.Test.YtcjcnfcedihckaaGreatDoorW29
set_option linter.all false
namespace Go.Proofs.YtcjcnfcedihckaaGreatDoor
open Go.AM
set_option maxRecDepth 4000
abbrev TK:=Int × aI × Int
def tk(t:Tok): TK:=(t.kind,t.s,t.n)
def Bd(r:aI): Prop:= ∀ c,r.head? = some c->pC c=false
def B0(r:aI): Prop:=True
def Bs(r:aI): Prop:=r.head? = some 32
def Lx(B:aI->Prop)(s:aI)(ks:List TK): Prop:= ∀ r,B r-> ∀(f pos:Nat) (acc:List Tok),(s++r).length<f-> ∃ f' ts,r.length<f'/\pP f (s++r) pos acc=pP f' r (pos+s.length) (acc++ts)/\ts.map tk=ks
def Lx.nil(B:aI->Prop): Lx B [] []:=fun r _ f pos acc hf=>⟨f,[],hf,by simp,rfl⟩
def Lx.app{B1 B2:aI->Prop}{s1 s2:aI}{k1 k2:List TK}(h1:Lx B1 s1 k1)(h2:Lx B2 s2 k2)(hb:∀ r,B2 r->B1 (s2++r)): Lx B2 (s1++s2) (k1++k2):=by
 intro r hr f pos acc hf;obtain⟨f1,t1,a1,b1,c1⟩:=h1 (s2++r) (hb r hr) f pos acc (by rw[<-bx];exact hf);obtain⟨f2,t2,a2,b2,c2⟩:=h2 r hr f1 (pos+s1.length) (acc++t1) a1;refine⟨f2,t1++t2,a2,?_,by rw[gD,c1,c2]⟩;rw[bx,b1,b2,aA,bx,Nat.add_assoc]
def Lx.weak{B B':aI->Prop}{s:aI}{ks:List TK}(h:Lx B s ks)(hb:∀ r,B' r->B r): Lx B' s ks:=fun r hr=>h r (hb r hr)
def Lx.sp(B:aI->Prop): Lx B [32] []:=by
 intro r _ f pos acc hf;obtain⟨f,rfl⟩:∃ k,f=k+1:=⟨f-1,by simp at hf;omega⟩;refine⟨f,[],by simp at hf;omega,?_,rfl⟩;rw[fx,sx,if_pos (by decide),bY];rfl
def Lx.one{B:aI->Prop}{s:aI}{k:TK}(hs:s≠[])(EP:(s.getD 0 0).toNat≠32)(h:∀ r,B r->iy (s++r)=⟨k.1,k.2.1,k.2.2,s.length,0⟩): Lx B s [k]:=by
 intro r hr f pos acc hf;have h1:=h r hr;obtain⟨c,s',rfl⟩:∃ c s',s=c::s':=by cases s with|nil=>exact absurd rfl hs|cons c s'=>exact⟨c,s',rfl⟩
 obtain⟨f,rfl⟩:∃ k,f=k+1:=⟨f-1,by simp at hf;omega⟩;refine⟨f,[⟨k.1,k.2.1,k.2.2,pos⟩],by simp at hf;omega,?_,rfl⟩;rw[bD]at h1 ⊢;rw[sx,if_neg (by simpa using EP),h1,if_pos rfl];simp
def ac3: Bd []:=fun d hd=>by cases hd
def Bs.cons{r:aI}(h:Bs r): ∃ r',r=32::r':=by
 cases r with
 | nil=>cases h
 | cons c r=>cases h;exact⟨r,rfl⟩
def aa4{m:aI}(hm:m=[40]\/m=[41]\/m=[45]\/m=[44]\/m=[46,46]\/m=[91]\/m=[93]): Lx B0 m [(4,m,0)]:=by
 rcases hm with rfl|rfl|rfl|rfl|rfl|rfl|rfl <;>
  exact Lx.one (by decide) (by decide) (fun r _=>by simp[iy,mK,ep,tA,vi,List.isPrefixOf])
def Bw{p:UInt8->Bool}{s r:aI}(hs:∀ c ∈ s,p c=true)(hr:∀ c,r.head? = some c->p c=false): (s++r).takeWhile p=s:=by
 induction s with
 | nil =>
   cases r with
   | nil=>rfl
   | cons c r=>rw[cS,ek,hr c rfl];rfl
 | cons c s ih =>
   rw[bD,ek,hs c (by simp),if_pos rfl,ih (fun d hd=>hs d (by simp[hd]))]
def takeWhile_eq{p:UInt8->Bool}{s:aI}(h:(s.takeWhile p).length=s.length): ∀ c ∈ s,p c=true:=by
 induction s with
 | nil=>intro c hc;cases hc
 | cons c s ih =>
   rw[ek]at h;split at h
   ·rename_i hp;intro d hd;rcases List.mem_cons.1 hd with rfl|hd
    ·exact hp
    ·exact ih (by simpa using h) d hd
   ·simp at h
def yx{s:aI}(hs:s≠[])(h:oz s=s.length): mK (s.getD 0 0)=true/\ ∀ c ∈ s,pC c=true:=by
 cases s with
 | nil=>exact absurd rfl hs
 | cons c r =>
   unfold oz at h;dsimp only at h;split at h
   ·rename_i hc;exact⟨hc,takeWhile_eq h⟩
   ·simp at h
def Ry{s:aI}(hs:s≠[])(h:oz s=s.length)(hl:s.length<=16): Lx Bd s [(1,s,0)]:=by
 obtain⟨h1,h2⟩:=yx hs h;obtain⟨c,s',rfl⟩:∃ c s',s=c::s':=by cases s with|nil=>exact absurd rfl hs|cons c s'=>exact⟨c,s',rfl⟩
 rw[aV]at h1;refine Lx.one hs (fun EP=>?_) (fun r hr=>?_)
 ·rw[aV]at EP;simp[mK,EP]at h1
 ·have hw : oz ((c :: s') ++ r) = (c :: s').length := by
   unfold oz;rw[bD];dsimp only;rw[if_pos h1,<-bD,Bw h2 hr]
  unfold iy;simp only[bD,aV,h1,if_true];rw[<-bD];unfold yg;rw[hw,if_neg (by omega),List.take_append_of_le_length (Nat.le_refl _),List.take_length]
def YA(a b:aI): ∀ v:Int,nY (a++b) v=(nY a v).bind (nY b):=by
 induction a with
 | nil=>intro v;rfl
 | cons c r ih =>
   intro v;rw[bD];simp only[nY];split
   ·rfl
   ·exact ih _
def yy{d:Nat}(h:d<10): (UInt8.ofNat (48+d)).toNat=48+d:=by
 rw[UInt8.toNat_ofNat'];omega
def qy(u:Nat): Lib.decDigits u≠[]/\(∀ c ∈ Lib.decDigits u,ep c=true)/\(1<=u->((Lib.decDigits u).getD 0 0).toNat≠48)/\(u<=9223372036854775807->nY (Lib.decDigits u) 0=some (u:Int)):=by
 induction u using Nat.strongRecOn with
 | _ u ih =>
   rw[Lib.decDigits];split
   ·rename_i h;have ht:=yy h;refine⟨by simp,fun c hc=>?_,fun h1=>?_,fun h2=>?_⟩
    ·simp only[List.mem_cons,List.not_mem_nil,or_false]at hc;subst hc;simp only[ep,ht,aq,decide_eq_true_eq];omega
    ·rw[aV,ht];omega
    ·simp only[nY,ht];rw[if_neg (by omega)]
     congr 1;omega
   ·rename_i h;obtain⟨i1,i2,i3,i4⟩:=ih (u / 10) (by omega);have ht:=yy (d:=u % 10) (by omega);refine⟨by simp,fun c hc=>?_,fun h1=>?_,fun h2=>?_⟩
    ·rcases List.mem_append.1 hc with hc|hc
     ·exact i2 c hc
     ·simp only[List.mem_cons,List.not_mem_nil,or_false]at hc;subst hc;simp only[ep,ht,aq,decide_eq_true_eq];omega
    ·have:=i3 (by omega);generalize Lib.decDigits (u / 10)=w at *;cases w with
     | nil=>exact absurd rfl i1
     | cons c w=>simpa using this
    ·rw[YA,i4 (by omega),gW];simp only[nY,ht];rw[if_neg (by omega)]
     congr 1;omega
def Wd{n:Int}(h0:0<=n)(h1:n<=9223372036854775807): Lx Bd (Lib.itoa n) [(2,[],n)]:=by
 obtain⟨u,rfl⟩:∃ u:Nat,n=u:=⟨n.toNat,by omega⟩;rw[Lib.itoa_nonneg];obtain⟨i1,i2,i3,i4⟩:=qy u;have i4:=i4 (by omega)
 have i5:1<(Lib.decDigits u).length->((Lib.decDigits u).getD 0 0).toNat≠48:=fun hl=>i3 (by
  by_cases hu:u<10
  ·rw[Lib.decDigits,dif_pos hu]at hl;simp at hl
  ·omega)
 clear i3;generalize Lib.decDigits u=w at *;obtain⟨c,s',rfl⟩:∃ c s',w=c::s':=by cases w with|nil=>exact absurd rfl i1|cons c s'=>exact⟨c,s',rfl⟩
 have hd:=i2 c (by simp);have hd2:=hd;simp only[ep,aq,decide_eq_true_eq]at hd2;have hlt:mK c=false:=by simp[mK];omega
 rw[aV]at i5;refine Lx.one i1 (by rw[aV];omega) (fun r hr=>?_);have htw:((c::s')++r).takeWhile ep=c::s':=Bw i2 (fun d hd=>by have:=hr d hd;simp only[pC,Bool.or_eq_false_iff]at this;exact this.2);unfold iy;simp only[bD,aV,hlt,hd,if_true,aB,if_false];rw[<-bD];unfold mL;rw[htw];simp only;rw[if_neg (fun hh=>i5 hh.1 (by simpa using hh.2)),i4]
def Qj(s r:aI): (∀ c ∈ s,jY c=true)-> ∀(b:aI) (i:Nat),b.length+s.length<=40->j6 (s.flatMap fN++(34::r)) b i=⟨3,b++s,0,i+(s.flatMap fN).length+1,0⟩:=by
 induction s with
 | nil =>
   intro _ b i hb;rw[fG,cS,jT,if_pos (by decide),if_neg (by simp at hb;omega)];simp
 | cons c s ih =>
   intro hp b i hb;have hc:=hp c (by simp);have hs:=fun d hd=>hp d (bI _ hd);rw[List.length_cons]at hb;have:=ih hs (b++[c]);rw[dw,bx];unfold fN;split
   ·rename_i hq;rw[bD,jT,if_neg (by decide),if_pos (by decide)];rw[fx];dsimp only;rw[if_pos hq];have h2:=this (i+2) (by simp;omega);rw[show (fun c=>if c.toNat=34\/c.toNat=92 then [92,c]else [c])=fN from rfl,h2];simp;omega
   ·rename_i hq;rw[fx,jT,if_neg (by omega),if_neg (by omega),if_pos hc];have h2:=this (i+1) (by simp;omega);rw[show (fun c=>if c.toNat=34\/c.toNat=92 then [92,c]else [c])=fN from rfl,h2];simp;omega
def aa5{s:aI}(h:gK s=true): Lx B0 (ji s) [(3,s,0)]:=by
 simp only[gK,aq,decide_eq_true_eq,aX]at h;refine Lx.one (by simp[ji]) (by simp[ji]) (fun r _=>?_);unfold iy ji;simp only[bD,aV];rw[if_neg (by decide),if_neg (by decide),if_pos (by decide),List.drop_succ_cons,List.drop_zero,bx,fx,Qj s r h.2 [] 1 (by simpa using h.1)];simp;omega
def TC(v:ez): TK:=if v.kind=1 then(2,[],v.n)else if v.kind=2 then(3,v.s,0)else if v.kind=3 then(1,if v.n=1 then pD else mY,0)else (1,AE,0)
def ac4{v:ez}(hr:bZ v=true)(hn:v.kind≠1\/0<=v.n)(hm:v.n<=9223372036854775807): Lx Bd (dO v) [TC v]:=by
 unfold dO TC;unfold bZ at hr;by_cases h1:v.kind=1
 ·rw[if_pos h1,if_pos h1];exact Wd (by omega) hm
 by_cases h2:v.kind=2
 ·rw[if_neg h1,if_neg h1,if_pos h2,if_pos h2];rw[if_neg (by omega),if_neg h1,if_pos h2]at hr;simp only[aq]at hr;exact(aa5 hr.2).weak (fun _ _=>trivial)
 rw[if_neg h1,if_neg h1,if_neg h2,if_neg h2];split
 ·split<;>exact Ry (by decide) (by decide) (by decide)
 ·exact Ry (by decide) (by decide) (by decide)
def xA(w:Int × List TK)(lvl:Int): List TK:=if w.1<lvl then(4,[40],0)::(w.2++[(4,[41],0)])else w.2
def agz: TK:=(1,[105,102],0)
def ac5: TK:=(1,thenS,0)
def ac6: TK:=(1,D2,0)
def aeC(op:Int): TK:=(rG (dJ op),(dJ op).sign,0)
def aeD(op:Int)(v:ez)(s:aI)(ws:List (Int × List TK)): List TK :=
 if op=1 then [TC v]else if op=2 then [(1,s,0)]
 else if op=3 then(4,[45],0)::xA (ws.getD 0 default) 6
 else if op=16 then agz::(xA (ws.getD 0 default) 0++(ac5::(xA (ws.getD 1 default) 0++(ac6::xA (ws.getD 2 default) 0))))
 else xA (ws.getD 0 default) (if(dJ op).level=3 then 4 else(dJ op).level)++(aeC op::xA (ws.getD 1 default) ((dJ op).level+1))
mutual
def YB: Expr->List TK
 | .mk op v s l=>aeD op v s (ac7 l)
def ac7: List Expr->List (Int × List TK)
 | []=>[]
 | x::r=>(eC x.op,YB x)::ac7 r
end
def HO(x:Expr)(lvl:Int): List TK:=xA (eC x.op,YB x) lvl
def Rz{s:aI}{ks:List TK}(h:Lx Bd s ks)(hs:s.length<=200): ∃ T,bN s=(T,0,0)/\T.map tk=ks:=by
 obtain⟨f',ts,h1,h2,h3⟩:=h [] ac3 (s.length+1) 0 [] (by simp);refine⟨ts,?_,h3⟩;unfold bN;rw[if_neg (by omega)];rw[bY]at h2;rw[h2];cases f' with
 | zero=>simp at h1
 | succ f'=>simp[pP]
def t_(T:List Tok): Nat->List TK->Prop
 | _,[]=>True
 | p,k::ks=>(p<T.length/\tk (T.getD p default)=k)/\t_ T (p+1) ks
def t_.app{T:List Tok}{a b:List TK}: ∀ {p:Nat},t_ T p (a++b)↔t_ T p a/\t_ T (p+a.length) b:=by
 induction a with
 | nil=>intro p;simp[t_]
 | cons k a ih =>
   intro p;rw[bD];simp only[t_,ih,List.length_cons];rw[show p+(a.length+1)=p+1+a.length by omega,and_assoc,and_assoc,and_assoc]
def t_.map(T:List Tok): ∀(p:Nat),p<=T.length->t_ T p ((T.drop p).map tk):=by
 intro p hp
 induction hn:T.length-p generalizing p with
 | zero=>rw[iY (by omega)];trivial
 | succ n ih =>
   have hlt:p<T.length:=by omega
   rw[eZ hlt,aU];refine⟨⟨hlt,?_⟩,ih (p+1) hlt (by omega)⟩;rw[aj,aN hlt];rfl
def Wf{T:List Tok}{p:Nat}{t:TK}{ks:List TK}(h:t_ T p (t::ks))(k:Int)(s:aI): nI T p k s=(decide (t.1=k) && decide (t.2.1=s)):=by
 obtain⟨⟨h1,h2⟩,_⟩:=h;unfold nI;rw[<-h2];simp[h1,tk]
def aa6{T:List Tok}{p:Nat}(h:T.length<=p)(l:Int): xo T p false l=none:=by
 unfold xo;rw[dA];intro x _;have:nI T p (rG x) x.sign=false:=by simp only[nI,Bool.and_eq_false_iff,decide_eq_false_iff_not];left;omega
 simp[gX,this]
def MH(T:List Tok)(p lvl:Nat): Prop:= ∀ l:Nat,lvl<=l->xo T p false l=none
def MH.end{T:List Tok}{p:Nat}(h:T.length<=p)(lvl:Nat): MH T p lvl:=fun l _=>aa6 h l
def Rd(T:List Tok)(x:Expr)(p q lvl:Nat): Prop:= ∀ f,8*(q-p)+(8-lvl)<=f->cN T f none lvl p=⟨x,q,false⟩
def Rd.paren{T:List Tok}{x:Expr}{p:Nat}{ks:List TK}(pL:t_ T p ((4,[40],0)::(ks++[(4,[41],0)])))(h:Rd T x (p+1) (p+1+ks.length) 0): Rd T x p (p+(ks.length+2)) 7:=by
 intro f hf;obtain⟨f,rfl⟩:∃ k,f=k+1:=⟨f-1,by omega⟩;have h1:=h f (by omega);have e1:nI T p 4 [40]=true:=by rw[Wf pL];rfl
 have hc:t_ T (p+1+ks.length) [(4,[41],0)]:=(t_.app.1 pL.2).2;have e2:gX T (p+1+ks.length) false 4 [41]=true:=by unfold gX;rw[Wf hc];rfl
 simp only[cN];rw[if_neg (by omega),if_neg (by omega),if_pos (by omega)];unfold nM;rw[e1,if_pos rfl];dsimp only;rw[h1];unfold kD tC;dsimp only;rw[e2,if_pos rfl];simp;omega
structure ahI (x:Expr):Prop where
 pos:1<=(YB x).length
 a:∀ (T:List Tok) (p lvl:Nat) (i:Int),i=lvl->lvl<=7->t_ T p (HO x i)->MH T (p+(HO x i).length) lvl->Rd T x p (p+(HO x i).length) lvl
 c:∀ (T:List Tok) (p L:Nat) (i:Int),i=L->1<=L->L<=5->L≠3->t_ T p (HO x i)->MH T (p+(HO x i).length) (L+1)-> ∀ f,8*(HO x i).length+(8-L)<=f-> ∃ f',f<=f'+1+(HO x i).length/\cN T f none L p=cN T f' (some x) L (p+(HO x i).length)
 f:∀ (T:List Tok) (p lvl:Nat),1<=lvl->t_ T p (HO x lvl)->nI T p 1 [105,102]=false
def YC(x:Expr): ∀ y,uR x y=true->x=y:=by
 induction x using Expr.ind with
 | h op v s l ih =>
   intro y h;obtain⟨o,w,u,m⟩:=y;simp only[uR,Expr.op,Expr.v,Expr.s,Expr.l,aq]at h;obtain⟨⟨⟨h1,h2⟩,h3⟩,h⟩:=h;obtain rfl:=of_decide_eq_true h1;obtain rfl:=of_decide_eq_true h2;obtain rfl:=of_decide_eq_true h3
   congr 1
   clear h1 h2 h3
   induction l generalizing m with
   | nil =>
     cases m with
     | nil=>rfl
     | cons y m=>simp[Ax]at h
   | cons x l ihl =>
     cases m with
     | nil=>simp[Ax]at h
     | cons y m =>
       simp only[Ax,aq]at h;rw[ih x (by simp) y h.1,ihl (fun z hz=>ih z (bI _ hz)) m h.2]
def Oz{t:Test}(h:kW t=true): (t.kind=6/\di t.a=true/\di t.b=true)\/(1<=t.kind/\t.kind<=5/\di t.a=true/\t.b=x0/\t.lo=false/\t.hi=false):=by
 unfold kW at h;split at h
 ·rename_i h6;simp only[m_,aq]at h;exact .inl ⟨h6,h.1.1,h.2.1⟩
 ·simp only[m_,aq,decide_eq_true_eq,cF]at h;obtain⟨⟨⟨⟨h1,h2⟩,h3⟩,h4⟩,h5⟩:=h;exact .inr ⟨h1.1,h1.2,h2.1,YC _ _ h3,h4,h5⟩
def t_.le{T:List Tok}{ks:List TK}: ∀ {p:Nat},t_ T p ks->p<=T.length->p+ks.length<=T.length:=by
 induction ks with
 | nil=>intro p _ hp;exact hp
 | cons k ks ih=>intro p h hp;rw[List.length_cons];have:=ih h.2 h.1.1;omega
def HP(l:List Test): aI:=l.flatMap fun t=>lU++testW t
def TD(t:Test)(r:List Test): AU (t::r)=testW t++HP r:=by
 unfold AU Lib.join HP
 induction r generalizing t with
 | nil=>simp[List.intercalate]
 | cons u r ih =>
   have h2:=ih u;simp only[aU,dw]at h2 ⊢;rw[List.intercalate_cons_cons,h2,bx,bx]
def rtT(T:List Tok): Prop:= ∀ q,((T.getD q default).kind=2->0<=(T.getD q default).n)/\((T.getD q default).kind=3->gK (T.getD q default).s=true)
def aff{o:Bq}(ho:o ∈ jM){x y:Expr}(hx:di x=true)(hy:di y=true): di (.mk o.op v0 [] [x,y])=true:=by
 have h:jZ o.op=2/\o.op≠1/\o.op≠2:=by
  simp only[jM,List.mem_cons,List.not_mem_nil,or_false]at ho;rcases ho with rfl|rfl|rfl|rfl|rfl|rfl|rfl|rfl|rfl|rfl|rfl|rfl<;>decide
 simp[di,rf,hx,hy,h.2.1,h.2.2,h.1]
def Qk(r b:aI)(i:Nat): (∀ c ∈ b,jY c=true)->(j6 r b i).e=0->gK (j6 r b i).s=true:=by
 fun_induction j6 r b i with
 | case1=>intro _ h;simp[PR.err]at h
 | case2=>intro _ h;simp[PR.err]at h
 | case3 c r b i h1 h2 =>
   intro hb _;simp only[gK,aq,decide_eq_true_eq,aX];exact⟨by omega,hb⟩
 | case4=>intro _ h;simp[PR.err]at h
 | case5 b i c h1 h2 d r' h3 ih =>
   intro hb h;refine ih (fun e he=>?_) h;rcases List.mem_append.1 he with he|he
   ·exact hb e he
   ·simp only[List.mem_cons,List.not_mem_nil,or_false]at he;subst he;simp only[jY,aq,decide_eq_true_eq];omega
 | case6=>intro _ h;simp[PR.err]at h
 | case7 c r b i h1 h2 h3 ih =>
   intro hb h;refine ih (fun e he=>?_) h;rcases List.mem_append.1 he with he|he
   ·exact hb e he
   ·simp only[List.mem_cons,List.not_mem_nil,or_false]at he;subst he;exact h3
 | case8=>intro _ h;simp[PR.err]at h
def TE(s:aI): (iy s).e=0->(iy s).kind=3->gK (iy s).s=true:=by
 have e:∀ k,(PR.err k).kind=0:=fun k=>rfl;unfold iy;simp only;split
 ·intro _ h;unfold yg at h;split at h<;>simp[PR.err]at h
 split
 ·intro _ h;unfold mL at h;simp only at h;split at h
  ·simp[PR.err]at h
  ·split at h<;>simp[PR.err]at h
 split
 ·intro h _;exact Qk _ _ _ (fun c hc=>by cases hc) h
 ·intro _ h;unfold tA at h;split at h<;>simp[PR.err]at h
def TF(f:Nat): ∀(s:aI) (pos:Nat) (acc:List Tok),(∀ t ∈ acc,t.kind=3->gK t.s=true)-> ∀ t ∈ (pP f s pos acc).1,t.kind=3->gK t.s=true:=by
 induction f with
 | zero=>intro s pos acc h;exact h
 | succ f ih =>
   intro s pos acc h;cases s with
   | nil=>exact h
   | cons c r =>
     rw[sx];split
     ·exact ih r (pos+1) acc h
     ·split
      ·rename_i he;refine ih _ _ _ (fun t ht=>?_);rcases List.mem_append.1 ht with ht|ht
       ·exact h t ht
       ·simp only[List.mem_cons,List.not_mem_nil,or_false]at ht;subst ht;exact TE _ he
      ·intro t ht;cases ht
def RA(s:aI): rtT (bN s).1:=by
 intro q
 have h1:∀ t ∈ (bN s).1,0<=t.n/\t.n<=9223372036854775807:=by
  unfold bN;split
  ·intro t ht;cases ht
  ·exact VM _ _ _ _ (fun t ht=>by cases ht)
 have h2:∀ t ∈ (bN s).1,t.kind=3->gK t.s=true:=by
  unfold bN;split
  ·intro t ht;cases ht
  ·exact TF _ _ _ _ (fun t ht=>by cases ht)
 by_cases hq:q<(bN s).1.length
 ·exact⟨fun _=>(h1 _ (bH hq)).1,h2 _ (bH hq)⟩
 ·rw[oA (by omega)];exact⟨fun h=>absurd h (by decide),fun h=>absurd h (by decide)⟩
def HQ{t:Table}{r:eL}(h:(lE t r).2.2=0): r.cells.length=t.ins.length/\r.outs.length=t.outs.length/\(∀ j,j<r.cells.length->(pW t r j).2=0)/\(∀ j,j<r.outs.length->(nO t r j).2=0)/\lE t r=(⟨mD t r r.cells.length,qM t r r.outs.length⟩,0,0):=by
 by_cases hb:r.cells.length≠t.ins.length\/r.outs.length≠t.outs.length
 ·rw[Li hb]at h;exact absurd h (by decide)
 have h1:r.cells.length=t.ins.length:=by omega
 have h2:r.outs.length=t.outs.length:=by omega
 have hc:∀ j,j<r.cells.length->(pW t r j).2=0:=by
  cases hq:(List.range r.cells.length).find? (fun k=>(pW t r k).2 != 0)with
  | some k =>
    exfalso;unfold lE at h;rw[if_neg hb,hq]at h;have:=dW hq;simp at this;exact this h
  | none =>
    intro j hj;have:=dA.1 hq j (cY.2 hj);simpa using this
 have ho:∀ j,j<r.outs.length->(nO t r j).2=0:=by
  cases hq:(List.range r.outs.length).find? (fun k=>(nO t r k).2 != 0)with
  | some k =>
    exfalso;unfold lE at h;rw[if_neg hb,l7 (fun j hj=>by simp[hc j hj])]at h;dsimp only at h;rw[hq]at h;have:=dW hq;simp at this;exact this h
  | none =>
    intro j hj;have:=dA.1 hq j (cY.2 hj);simpa using this
 exact⟨h1,h2,hc,ho,Oo h1 h2 hc ho⟩
def Dh{α : Type}[Inhabited α](f:Nat-> α){n k:Nat}(hk:k<n): ((List.range n).map f).getD k default=f k:=by
 rw[aj,List.getElem?_map,List.getElem?_range hk];rfl
def Wg{w:Nat}{l:kB}(h:(uD w l).2.2=0): (∀ j,j<l.cells.length->(kY l j).2=0)/\(∀ j,j<l.outs.length->(oD l j).2=0):=by
 have hc:∀ j,j<l.cells.length->(kY l j).2=0:=by
  cases hq:(List.range l.cells.length).find? (fun k=>(kY l k).2 != 0)with
  | some k =>
    exfalso;unfold uD at h;rw[hq]at h;have:=dW hq;simp at this;exact this h
  | none =>
    intro j hj;have:=dA.1 hq j (cY.2 hj);simpa using this
 refine⟨hc,?_⟩;cases hq:(List.range l.outs.length).find? (fun k=>(oD l k).2 != 0)with
 | some k =>
   exfalso;unfold uD at h;rw[l7 (fun j hj=>by simp[hc j hj])]at h;dsimp only at h;rw[hq]at h;have:=dW hq;simp at this;exact this h
 | none =>
   intro j hj;have:=dA.1 hq j (cY.2 hj);simpa using this
def rz{t:Table}(h:(fB t).2.2.2=0): (eM t).2.2.2=0/\(∀ j,j<(eM t).1.lines.length->(mB t j).2.2=0)/\fB t=({ t with rules:=ni t (eM t).1.lines.length },0,0,0):=by
 by_cases he:(eM t).2.2.2=0
 ·have hr : ∀ j, j < (eM t).1.lines.length -> (mB t j).2.2 = 0 := by
   cases hq:(List.range (eM t).1.lines.length).find? (fun k=>(mB t k).2.2 != 0)with
   | some k =>
     exfalso;unfold fB at h;rw[if_neg (by omega),hq]at h;have:=dW hq;simp at this;exact this h
   | none =>
     intro j hj;have:=dA.1 hq j (cY.2 hj);simpa using this
  exact⟨he,hr,yw he hr⟩
 ·rw[y3 he]at h;exact absurd h he
def yz(n:Int): Nat:=if n<0 then(2*(-1-n)+1).toNat else(2*n).toNat
def vM: Nat->Nat->aI
 | 0,c=>[UInt8.ofNat c]
 | f+1,c=>if c<128 then [UInt8.ofNat c]else UInt8.ofNat (128+c % 128)::vM f (c / 128)
def jk(n:Int): aI:=vM 9 (yz n)
def gZ(s:aI): aI:=jk s.length++s
def YD{n:Int}(h : -9223372036854775808<=n)(h':n<=9223372036854775807): yz n<18446744073709551616:=by
 unfold yz;split<;>omega
def u8(n:Nat)(h:n<256): (UInt8.ofNat n).toNat=n:=by simp[UInt8.toNat_ofNat'];omega
def lM(v:ez): aI:=jk v.kind++(if v.kind=2 then gZ v.s else if v.kind=1\/v.kind=3 then jk v.n else [])
def rV(l:List ez): aI:=jk l.length++l.flatMap lM
def EU{v:ez}(h:bZ v=true): v.kind=0/\v=v0\/v.kind=1/\v.s=[]\/v.kind=2/\v.n=0/\v.s.length<=40\/v.kind=3/\v.s=[]:=by
 obtain⟨k,n,s⟩:=v;unfold bZ at h;dsimp only at h ⊢;split at h
 ·left;simp at h;simp[v0, *]
 split at h
 ·right;left;simp at h;simp[*]
 split at h
 ·right;right;left;simp[gK]at h;simp[*]
 split at h
 ·right;right;right;simp at h;simp[*]
 ·cases h
def iu(n:Int): Prop:= -9223372036854775808<=n/\n<=9223372036854775807
def zF(l:List ez): Prop:=l.length<=2 ^ 30/\ ∀ v ∈ l,iu v.n/\v.s.length<=2 ^ 30
def rJ(o:Bool)(c:cV): aI:=gZ c.name++jk c.kind++(if o then rV c.order else [])
def lV(o:Bool)(l:List cV): aI:=jk l.length++l.flatMap (rJ o)
def nQ(r:eL): aI:=r.cells.flatMap gZ++r.outs.flatMap gZ
def yA(t:Table): aI:=gZ t.name++jk t.aL++jk t.agg++lV false t.ins++lV true t.outs++jk t.rules.length++t.rules.flatMap nQ
def j0(t:Table): aI × Int:=if(fB t).2.2.2≠0 then([],(fB t).2.2.2)else if iF (fB t).1 t=false then([],4)else if 1400<(yA t).length then([],5)else (yA t,0)
def Ql{t:Table}{s:aI}(h:j0 t=(s,0)): (fB t).2.2.2=0/\iF (fB t).1 t=true/\s=yA t/\s.length<=1400:=by
 unfold j0 at h;split at h
 ·rename_i h1;injection h with _ h2;exact absurd h2 h1
 split at h
 ·injection h with _ h2;cases h2
 split at h
 ·injection h with _ h2;cases h2
 ·rename_i h1 h2 h3;injection h with h4 _;exact⟨by omega,by simpa using h2,h4.symm,by rw[<-h4];omega⟩
def Ll{l:List cV}(h:jq l=0): l.length<=6/\ ∀ c ∈ l,fh c.name=true/\1<=c.kind/\c.kind<=3:=by
 have h6:l.length<=6:=by
  unfold jq at h;split at h
  ·omega
  ·omega
 refine⟨h6,fun c hc=>?_⟩;obtain⟨i,hi,rfl⟩:=bz hc;have e:l[i]=l.getD i default:=by rw[aj,aN hi];rfl
 rw[e];refine⟨?_,HI h hi⟩;unfold jq at h;rw[if_neg (by omega)]at h;split at h
 ·rename_i j hj;have:=dW hj;simp[h]at this
 ·rename_i hn;have:=dA.1 hn i (by simpa using hi);have h0:o9 l i=0:=by simpa using this
  unfold o9 at h0;split at h0
  ·omega
  ·rename_i hh;have:=not_or.1 hh;simpa using this.1
def OA{s:aI}(h:fh s=true): s.length<=16:=by
 simp only[fh,aq,decide_eq_true_eq]at h;exact h.1.2
def OB{l:List cV}{b:Bool}(h:jO l b=0): jq l=0/\0<l.length/\ ∀ c ∈ l,iT c b=true:=by
 obtain⟨h1,h2⟩:=yq h;refine⟨h1,h2,fun c hc=>?_⟩;unfold jO at h;rw[if_neg (by omega)]at h;split at h
 ·omega
 ·rename_i hh;have:=(not_or.1 hh).2;rw[List.any_eq_true]at this;cases hq:iT c b with
  | true=>rfl
  | false=>exact absurd ⟨c,hc,by rw[hq];rfl⟩ this
def TG{c:cV}{b:Bool}(h:iT c b=true)(hk:tI c): (b=false->c.order=[])/\c.order.length<=8/\ ∀ v ∈ c.order,bZ v=true/\iu v.n:=by
 unfold iT at h;cases b with
 | false =>
   rw[if_neg (by simp),decide_eq_true_eq]at h;have:=List.length_eq_zero_iff.1 h;rw[this];exact⟨fun _=>rfl,by simp,by simp⟩
 | true =>
   rw[if_pos rfl,aq,decide_eq_true_eq,aX]at h;refine⟨fun h=>(by cases h),h.2.2,fun v hv=>?_⟩;refine⟨?_,(hk.2.2 v hv).1⟩;obtain⟨i,hi,rfl⟩:=bz hv;have:=h.1 i (by simpa using hi);simp only[pV,aq]at this;have e:c.order[i]=c.order.getD i default:=by rw[aj,aN hi];rfl
   rw[e];exact this.1.1
def Qm{t:Table}(h:jr t=true): 1<=t.aL/\t.aL<=6/\0<=t.agg/\t.agg<=4:=by
 unfold jr at h;split at h
 ·cases h
 split at h
 ·omega
 split at h
 ·cases h
 ·omega
def zG{α : Type}{p : α-> α->Bool}(hp:∀ x y,p x y=true->x=y): ∀ {l m:List α},gV p l m=true->l=m:=by
 intro l
 induction l with
 | nil => intro m h; cases m with
   | nil=>rfl
   | cons=>simp[gV]at h
 | cons x l ih => intro m h; cases m with
   | nil=>simp[gV]at h
   | cons y m =>
     simp only[gV,aq]at h;rw[hp _ _ h.1,ih h.2]
def HR(a b:cV)(h:iq a b=true): a=b:=by
 obtain⟨a1,a2,a3⟩:=a;obtain⟨b1,b2,b3⟩:=b;simp only[iq,aq,beq_iff_eq,decide_eq_true_eq]at h;obtain⟨⟨rfl,rfl⟩,h3⟩:=h;rw[zG (fun x y h=>by simpa using h) h3]
def Qn(a b:eL)(h:jW a b=true): a=b:=by
 obtain⟨a1,a2⟩:=a;obtain⟨b1,b2⟩:=b;simp only[jW,aq]at h;rw[zG (fun x y h=>by simpa using h) h.1,zG (fun x y h=>by simpa using h) h.2]
def tK{a b:Table}(h:iF a b=true): a=b:=by
 obtain⟨a1,a2,a3,a4,a5,a6⟩:=a;obtain⟨b1,b2,b3,b4,b5,b6⟩:=b;simp only[iF,aq,beq_iff_eq,decide_eq_true_eq]at h;obtain⟨⟨⟨⟨⟨rfl,rfl⟩,rfl⟩,h4⟩,h5⟩,h6⟩:=h;rw[zG HR h4,zG HR h5,zG Qn h6]
def YE: ∀(k c:Nat),(vM k c).length<=k+1:=by
 intro k
 induction k with
 | zero=>intro c;simp[vM]
 | succ k ih => intro c; rw [vM]; split
                ·simp
                ·have:=ih (c / 128);simp;omega
def jy(n:Int): (jk n).length<=10:=YE 9 _
structure ef where
 kind:Int
 table:Table
 name:aI
 ver:Int
 row:List ez
 jF:Int
 l9:Int
deriving Inhabited
def eV: ef:=⟨0,iD,[],0,[],0,0⟩
def mM(a b:ef): Bool:=decide (a.kind=b.kind) && iF a.table b.table && a.name==b.name && decide (a.ver=b.ver) && gV (fun x y=>x==y) a.row b.row && decide (a.jF=b.jF) && decide (a.l9=b.l9)
def tL(c:ef): Bool:=(decide (c.kind=1) || iF c.table iD) && (decide (c.kind=2\/c.kind=3) ||(c.name==[] && decide (c.ver=0))) && (decide (c.kind=2) || decide (c.row.length=0)) && (decide (c.kind=5\/c.kind=6) || decide (c.jF=0)) && (decide (c.kind=5) || decide (c.l9=0))
def oS(n:Int): Bool:=decide (0<=n/\n<=1125899906842624)
def dX(c:ef): Int :=
 if c.kind=1/\(j0 c.table).2≠0 then(j0 c.table).2
 else if 1<=c.kind/\c.kind<=9/\tL c=true/\((c.kind=2\/c.kind=3)->fh c.name=true/\0<=c.ver/\c.ver<=2147483648)/\oS c.jF=true/\oS c.l9=true/\c.row.length<=6/\c.row.all bZ=true then 0 else 2
def g_(c:ef): Prop:=iu c.kind/\j8 c.table/\c.name.length<=2 ^ 30/\iu c.ver/\zF c.row/\iu c.jF/\iu c.l9
def mc{c:ef}(h:dX c=0): (c.kind=1->(j0 c.table).2=0)/\(1<=c.kind/\c.kind<=9/\tL c=true/\((c.kind=2\/c.kind=3)->fh c.name=true/\0<=c.ver/\c.ver<=2147483648)/\oS c.jF=true/\oS c.l9=true/\c.row.length<=6/\c.row.all bZ=true):=by
 unfold dX at h;split at h
 ·rename_i h1;exact absurd h h1.2
 ·rename_i h1;split at h
  ·rename_i h2;exact⟨fun hk=>Classical.not_not.1 fun hn=>h1 ⟨hk,hn⟩,h2⟩
  ·cases h
def A4{c:ef}(h:tL c=true): (c.kind=1\/c.table=iD)/\((c.kind=2\/c.kind=3)\/c.name=[]/\c.ver=0)/\(c.kind=2\/c.row=[])/\((c.kind=5\/c.kind=6)\/c.jF=0)/\(c.kind=5\/c.l9=0):=by
 simp only[tL,aq,dm,decide_eq_true_eq,beq_iff_eq,List.length_eq_zero_iff]at h;obtain⟨⟨⟨⟨h1,h2⟩,h3⟩,h4⟩,h5⟩:=h;exact⟨h1.imp id tK,h2,h3,h4,h5⟩
def sD: j8 iD:=⟨by decide,⟨by decide,fun c hc=>(by cases hc)⟩,⟨by decide,fun c hc=>(by cases hc)⟩,by decide,fun c hc=>(by cases hc)⟩
def k_: iu 0:=⟨by decide,by decide⟩
def JI: g_ eV:=⟨k_,sD,by decide,k_,⟨by decide,fun c hc=>(by cases hc)⟩,k_,k_⟩
def F7{v:ez}(h:bZ v=true): v.s.length<=40:=by
 rcases EU h with⟨_,h⟩|⟨_,h⟩|⟨_,_,h⟩|⟨_,h⟩
 ·rw[h];decide
 ·rw[h];decide
 ·exact h
 ·rw[h];decide
def wrap_u64(x:Int): eK .u64 x=x % 18446744073709551616:=rfl
def wrap_u8(x:Int): eK .u8 x=x % 256:=rfl
def xor_zero(k:IntKind)(x:Nat)(h:x<2 ^ k.bits): ((BitVec.ofInt k.bits (x:Int)) ^^^ (BitVec.ofInt k.bits 0)).toNat=x:=by
 have:BitVec.ofInt k.bits 0=0#k.bits:=by simp
 rw[this,BitVec.xor_zero];simp[Nat.mod_eq_of_lt h]
def TH(x:Nat)(h:x<18446744073709551616)(y:Int)(hy:y % 18446744073709551616=18446744073709551615): ((BitVec.ofInt 64 (x:Int)) ^^^ (BitVec.ofInt 64 y)).toNat=18446744073709551615-x:=by
 have e:BitVec.ofInt 64 y=BitVec.allOnes 64:=by
  apply BitVec.eq_of_toNat_eq;rw[BitVec.toNat_ofInt,BitVec.toNat_allOnes];omega
 rw[e,BitVec.xor_allOnes,BitVec.toNat_not];have:(BitVec.ofInt 64 (x:Int)).toNat=x:=by rw[BitVec.toNat_ofInt];omega
 rw[this]
def Wh{n:Int}(h : -9223372036854775808<=n/\n<=9223372036854775807): j5 .xor .u64 (eK .u64 (eK .u64 n*2)) (eK .u64 (n.fdiv 9223372036854775808))=yz n:=by
 rw[mz];show eK .u64 (((BitVec.ofInt 64 (eK .u64 (eK .u64 n*2))) ^^^ (BitVec.ofInt 64 (eK .u64 (n.fdiv 9223372036854775808)))).toNat:Int)=yz n;rw[Int.fdiv_eq_ediv_of_nonneg _ (by decide)];simp only[wrap_u64];unfold yz;by_cases hn:n<0
 ·rw[if_pos hn];have e1:(n % 18446744073709551616*2 % 18446744073709551616:Int)=((2*n+18446744073709551616).toNat:Int):=by omega
  rw[e1,TH _ (by omega) _ (by omega)];omega
 ·rw[if_neg hn];have e1:(n % 18446744073709551616*2 % 18446744073709551616:Int)=((2*n).toNat:Int):=by omega
  have e2:(n / 9223372036854775808 % 18446744073709551616:Int)=0:=by omega
  rw[e1,e2];have:=xor_zero .u64 (2*n).toNat (by show _<18446744073709551616;omega);have e3:IntKind.u64.bits=64:=rfl;rw[e3]at this;rw[this];omega
def YF(w k x:Nat)(hx:x<2 ^ w)(hk:k<=w): ((BitVec.ofInt w (x:Int)) &&& (BitVec.ofInt w ((2 ^ k-1:Nat):Int))).toNat=x % 2 ^ k:=by
 have h2:2 ^ k-1<2 ^ w:=dL (Nat.sub_lt (Nat.pow_pos (by decide)) (by decide)) (Nat.pow_le_pow_right (by decide) hk);rw[BitVec.toNat_and];have e1:(BitVec.ofInt w (x:Int)).toNat=x:=by rw[BitVec.ofInt_natCast,BitVec.toNat_ofNat,Nat.mod_eq_of_lt hx]
 have e2:(BitVec.ofInt w ((2 ^ k-1:Nat):Int)).toNat=2 ^ k-1:=by rw[BitVec.ofInt_natCast,BitVec.toNat_ofNat,Nat.mod_eq_of_lt h2]
 rw[e1,e2,Nat.and_two_pow_sub_one_eq_mod]
def YG{x:Int}{c:Nat}(h:x % 256=((c % 256:Nat):Int)): j5 .and .u8 (eK .u8 x) 127=((c % 128:Nat):Int):=by
 rw[mz];show eK .u8 (((BitVec.ofInt 8 (eK .u8 x)) &&& (BitVec.ofInt 8 127)).toNat:Int)=_;have:=YF 8 7 (c % 256) (by omega) (by decide);have e:((2 ^ 7-1:Nat):Int)=127:=by decide
 rw[e]at this;rw[wrap_u8 x,h,this,wrap_u8];omega
def ac8{w k x:Nat}{y:Nat}(hx:x<2 ^ k)(hw:2 ^ k*y+x<2 ^ w): ((BitVec.ofInt w (x:Int)) |||(BitVec.ofInt w ((2 ^ k*y:Nat):Int))).toNat=2 ^ k*y+x:=by
 rw[BitVec.toNat_or];have e1:(BitVec.ofInt w (x:Int)).toNat=x:=by rw[BitVec.ofInt_natCast,BitVec.toNat_ofNat,Nat.mod_eq_of_lt (by omega)]
 have e2:(BitVec.ofInt w ((2 ^ k*y:Nat):Int)).toNat=2 ^ k*y:=by rw[BitVec.ofInt_natCast,BitVec.toNat_ofNat,Nat.mod_eq_of_lt (by omega)]
 rw[e1,e2,Nat.or_comm,Nat.two_pow_add_eq_or_of_lt hx]
def Wi{d:Nat}(h:d<128): j5 .or .u8 (d:Int) 128=((128+d:Nat):Int):=by
 rw[mz];show eK .u8 (((BitVec.ofInt 8 (d:Int)) |||(BitVec.ofInt 8 128)).toNat:Int)=_;have:=ac8 (w:=8) (k:=7) (x:=d) (y:=1) (by omega) (by omega);have e:((2 ^ 7*1:Nat):Int)=128:=by decide
 rw[e]at this;rw[this,wrap_u8];omega
def JJ(c:Nat): UInt8:=UInt8.ofNat (c % 128)
def MI(c:Nat): UInt8:=UInt8.ofNat (128+c % 128)
def OC(c:Nat): ((c % 128:Nat):Int)=((JJ c).toNat:Int):=by rw[JJ,u8 _ (by omega)]
def Wj(c:Nat): j5 .or .u8 ((JJ c).toNat:Int) 128=((MI c).toNat:Int):=by
 rw[<-OC,Wi (by omega),MI,u8 _ (by omega)]
def RB(s:aI)(b:UInt8): q8 s++[AV.int .u8 b.toNat]=q8 (s++[b]):=by simp
def YH{k c:Nat}(h:c<128): vM k c=[JJ c]:=by
 rw[JJ,Nat.mod_eq_of_lt h];cases k with
 | zero=>rfl
 | succ k=>rw[vM,if_pos h]
def Wk{k c:Nat}(h:128<=c): vM (k+1) c=MI c::vM k (c / 128):=by rw[vM,if_neg (by omega)];rfl
def TI(n:Int)(h:iu n): aM aK 121 [I n] (.int .u64 (yz n)):=by
 refine aR Mj ?_;intro Q aC aD aE;repeat' first|refine aG ?_|refine aF ?_ ?_<;>intro hw<;>try omega|fail
 refine aS ?_ rfl;exact congrArg (AV.int .u64) (Wh h)
def Qo(c:Nat): aM aK 122 [.int .u64 c] (.int .u8 ((JJ c).toNat)):=by
 refine aR BJ ?_;intro Q aC aD aE;repeat' first|refine aG ?_|refine aF ?_ ?_<;>intro hw<;>try omega|fail
 refine aS ?_ rfl;refine congrArg (AV.int .u8) ?_;rw[<-OC];exact YG (by omega)
def nk(n:Int)(h:iu n): aM aK 76 [I n] (.str (jk n)):=by
 have hc:=YD h.1 h.2;obtain⟨E,hE⟩:∃ E,jk n=E:=⟨_,rfl⟩;rw[hE];unfold jk at hE;have h1:=TI n h;generalize yz n=c0 at *;refine aR Ns ?_;intro Q aC aD aE;repeat' first|refine aG ?_|refine aF ?_ ?_<;>intro hw<;>try omega|fail
 with_reducible refine bX [3,4,8,9,10,11,12,13,14,15,16,17] (fun q:Nat × aI × Nat=>[(3,.int .u64 q.2.2),(4,.own E1 0 q.2.1.length 0 q.2.1.length)]) (fun q=>[.vec E1 (q8 q.2.1)]) (fun q=>q.1<=9/\q.2.1.length=q.1/\q.2.2*128 ^ q.1<18446744073709551616/\E=q.2.1++vM (9-q.1) q.2.2) (fun q=>10-q.1) ((0,[],c0)) ?_ ?_ ?_ ?_
 ·exact⟨by omega,rfl,by show c0*1<_;omega,by simp[hE]⟩
 ·rfl
 ·exact at_
 rintro⟨i,s,c⟩ r ⟨g1,g2,g3,g4⟩;dsimp only at g1 g2 g3 g4;have hl:=Qo c;have hm:=Wj c
 have hq:(c:Int).fdiv (2 ^ (Int.toNat 7).min 64)=((c / 128:Nat):Int):=by
  show(c:Int).fdiv 128=_;rw[Int.fdiv_eq_ediv_of_nonneg _ (by decide)];omega
 by_cases hb:128<=c
 ·have hi : i < 9 := by
   rcases Nat.lt_or_ge i 9 with h|h
   ·exact h
   ·obtain rfl:i=9:=by omega
    have e:(128:Nat) ^ 9=9223372036854775808:=by decide
    rw[e]at g3;omega
  obtain⟨k,hk⟩:∃ k,9-i=k+1:=⟨8-i,by omega⟩;rw[hk,Wk hb]at g4;repeat' first|simp (disch:=omega) only[go_sem,aC,aD,aE,hm,hq,RB]|refine aG ?_|refine aF ?_ ?_<;>intro hw<;>try omega|fail
  refine⟨(i+1,s++[MI c],c / 128),?_,?_,?_,da,at_⟩<;>(try dsimp only)
  ·refine⟨by omega,by simp[g2],?_,?_⟩
   ·have e2 : c / 128 * 128 ^ (i + 1) = 128 * (c / 128) * 128 ^ i := by
     rw[Nat.pow_succ,Nat.mul_comm (128 ^ i) 128,<-Nat.mul_assoc,Nat.mul_comm (c / 128) 128]
    exact Nat.lt_of_le_of_lt (by rw[e2];exact aY _ (by omega)) g3
   ·have:9-(i+1)=k:=by omega
    rw[this];simp[g4]
  ·omega
  all_goals (simp[g2];done)
 ·rw[YH (by omega)]at g4;repeat' first|simp (disch:=omega) only[go_sem,aC,aD,aE,RB]|refine aG ?_|refine aF ?_ ?_<;>intro hw<;>try omega|fail
  exact aS (by rw[g4]) rfl
def wC(s:aI)(hs:s.length<=2 ^ 61): aM aK 75 [.str s] (.str (gZ s)):=by
 have h1:=nk s.length ⟨by omega,by omega⟩;have h2:=jy s.length;unfold gZ;generalize jk s.length=x at *;refine aR Mh ?_;intro Q aC aD aE;have agA:((x.length+s.length:Nat):Int)<=IntKind.i64.max:=by show _<=(9223372036854775807:Int);omega
 repeat' first|refine aG ?_|refine aF ?_ ?_<;>intro hw<;>try omega|fail
 exact aS rfl rfl
def xB(v:ez): aI × Int:=if bZ v then(lM v,0)else ([],2)
def HS(v:ez): (lM v).length<=30+v.s.length:=by
 have h1:=jy v.kind;have h2:=jy v.n;have h3:=jy v.s.length;unfold lM gZ;rw[aA];split
 ·rw[aA];omega
 split
 ·omega
 ·simp;omega
def Qp(k n:Int)(s:aI)(hn:iu n)(hs:s.length<=2 ^ 60): aM aK 162 [.agg [I k,I n,.str s]] (.bU [.str (xB ⟨k,n,s⟩).1,I (xB ⟨k,n,s⟩).2]):=by
 have c1:=q_ k n s hn.1 hn.2;obtain⟨E,hE⟩:∃ E,xB ⟨k,n,s⟩=E:=⟨_,rfl⟩;rw[hE];unfold xB lM at hE;dsimp only at hE;have hk:=@EU ⟨k,n,s⟩;dsimp only at hk;generalize bZ ⟨k,n,s⟩=b at *;cases b
 ·simp only[nF,aB,if_false]at c1 hE;refine aR zl ?_;intro Q aC aD aE;repeat' first|refine aG ?_|refine aF ?_ ?_<;>intro hw<;>try omega|fail
  exact cj (by rw[<-hE]) rfl
 have hk:=hk rfl;simp only[nF,if_true]at c1 hE;have c2:=nk k ⟨by omega,by omega⟩;have c3:=nk n hn;have c4:=wC s (by omega);have l1:=jy k;have l2:=jy n;have l3:(gZ s).length<=10+s.length:=by unfold gZ;have:=jy s.length;rw[List.length_append];omega
 generalize jk k=x at *;generalize jk n=y at *;generalize gZ s=z at *;have a1:((x.length+y.length:Nat):Int)<=IntKind.i64.max:=by show _<=(9223372036854775807:Int);omega
 have a2:((x.length+z.length:Nat):Int)<=IntKind.i64.max:=by show _<=(9223372036854775807:Int);omega
 refine aR zl ?_;intro Q aC aD aE;repeat' first|refine aG ?_|refine aF ?_ ?_<;>intro hw<;>try omega|fail
 all_goals first
  | exact bK
  |(refine cj ?_ rfl;rw[<-hE];simp_all;done)
  |(refine cj ?_ rfl;rw[<-hE,if_neg (by omega),if_neg (by omega),bY];done)
