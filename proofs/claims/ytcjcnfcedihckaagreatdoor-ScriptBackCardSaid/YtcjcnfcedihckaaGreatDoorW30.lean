/- Part. -/
import Derived.Test.YtcjcnfcedihckaaGreatDoorW29
set_option linter.all false
namespace Go.Proofs.YtcjcnfcedihckaaGreatDoor
open Go.AM
set_option maxRecDepth 4000
abbrev TK:=Int × aI × Int
def tk(t:Tok): TK:=(t.kind,t.s,t.n)
def Bd(r:aI): Prop:= ∀ c,r.head? = some c->oS c=false
def B0(r:aI): Prop:=True
def Bs(r:aI): Prop:=r.head? = some 32
def Lx(B:aI->Prop)(s:aI)(ks:List TK): Prop:= ∀ r,B r-> ∀(f pos:Nat) (acc:List Tok),(s++r).length<f-> ∃ f' ts,r.length<f'/\o_ f (s++r) pos acc=o_ f' r (pos+s.length) (acc++ts)/\ts.map tk=ks
def Lx.nil(B:aI->Prop): Lx B [] []:=fun r _ f pos acc hf=>⟨f,[],hf,by simp,rfl⟩
def Lx.app{B1 B2:aI->Prop}{s1 s2:aI}{k1 k2:List TK}(h1:Lx B1 s1 k1)(h2:Lx B2 s2 k2)(hb:∀ r,B2 r->B1 (s2++r)): Lx B2 (s1++s2) (k1++k2):=by
 intro r hr f pos acc hf;obtain⟨f1,t1,a1,b1,c1⟩:=h1 (s2++r) (hb r hr) f pos acc (by rw[<-bt];exact hf);obtain⟨f2,t2,a2,b2,c2⟩:=h2 r hr f1 (pos+s1.length) (acc++t1) a1;refine⟨f2,t1++t2,a2,?_,by rw[fY,c1,c2]⟩;rw[bt,b1,b2,aA,bt,Nat.add_assoc]
def Lx.weak{B B':aI->Prop}{s:aI}{ks:List TK}(h:Lx B s ks)(hb:∀ r,B' r->B r): Lx B' s ks:=fun r hr=>h r (hb r hr)
def Lx.sp(B:aI->Prop): Lx B [32] []:=by
 intro r _ f pos acc hf;obtain⟨f,rfl⟩:∃ k,f=k+1:=⟨f-1,by simp at hf;omega⟩;refine⟨f,[],by simp at hf;omega,?_,rfl⟩;rw[eY,rN,if_pos (by decide),bS];rfl
def Lx.one{B:aI->Prop}{s:aI}{k:TK}(hs:s≠[])(Nh:(s.getD 0 0).toNat≠32)(h:∀ r,B r->gZ (s++r)=⟨k.1,k.2.1,k.2.2,s.length,0⟩): Lx B s [k]:=by
 intro r hr f pos acc hf;have h1:=h r hr;obtain⟨c,s',rfl⟩:∃ c s',s=c::s':=by cases s with|nil=>exact absurd rfl hs|cons c s'=>exact⟨c,s',rfl⟩
 obtain⟨f,rfl⟩:∃ k,f=k+1:=⟨f-1,by simp at hf;omega⟩;refine⟨f,[⟨k.1,k.2.1,k.2.2,pos⟩],by simp at hf;omega,?_,rfl⟩;rw[bD]at h1 ⊢;rw[rN,if_neg (by simpa using Nh),h1,if_pos rfl];simp
def abO: Bd []:=fun d hd=>by cases hd
def Bs.cons{r:aI}(h:Bs r): ∃ r',r=32::r':=by
 cases r with
 | nil=>cases h
 | cons c r=>cases h;exact⟨r,rfl⟩
def ZS{m:aI}(hm:m=[40]\/m=[41]\/m=[45]\/m=[44]\/m=[46,46]\/m=[91]\/m=[93]): Lx B0 m [(4,m,0)]:=by
 rcases hm with rfl|rfl|rfl|rfl|rfl|rfl|rfl <;>
  exact Lx.one (by decide) (by decide) (fun r _=>by simp[gZ,mq,dW,sK,uI,List.isPrefixOf])
def A3{p:UInt8->Bool}{s r:aI}(hs:∀ c ∈ s,p c=true)(hr:∀ c,r.head? = some c->p c=false): (s++r).takeWhile p=s:=by
 induction s with
 | nil =>
   cases r with
   | nil=>rfl
   | cons c r=>rw[cP,dQ,hr c rfl];rfl
 | cons c s ih =>
   rw[bD,dQ,hs c (by simp),if_pos rfl,ih (fun d hd=>hs d (by simp[hd]))]
def takeWhile_eq{p:UInt8->Bool}{s:aI}(h:(s.takeWhile p).length=s.length): ∀ c ∈ s,p c=true:=by
 induction s with
 | nil=>intro c hc;cases hc
 | cons c s ih =>
   rw[dQ]at h;split at h
   ·rename_i hp;intro d hd;rcases List.mem_cons.1 hd with rfl|hd
    ·exact hp
    ·exact ih (by simpa using h) d hd
   ·simp at h
def xZ{s:aI}(hs:s≠[])(h:nZ s=s.length): mq (s.getD 0 0)=true/\ ∀ c ∈ s,oS c=true:=by
 cases s with
 | nil=>exact absurd rfl hs
 | cons c r =>
   unfold nZ at h;dsimp only at h;split at h
   ·rename_i hc;exact⟨hc,takeWhile_eq h⟩
   ·simp at h
def Qi{s:aI}(hs:s≠[])(h:nZ s=s.length)(hl:s.length<=16): Lx Bd s [(1,s,0)]:=by
 obtain⟨h1,h2⟩:=xZ hs h;obtain⟨c,s',rfl⟩:∃ c s',s=c::s':=by cases s with|nil=>exact absurd rfl hs|cons c s'=>exact⟨c,s',rfl⟩
 rw[aT]at h1;refine Lx.one hs (fun Nh=>?_) (fun r hr=>?_)
 ·rw[aT]at Nh;simp[mq,Nh]at h1
 ·have hw : nZ ((c :: s') ++ r) = (c :: s').length := by
   unfold nZ;rw[bD];dsimp only;rw[if_pos h1,<-bD,A3 h2 hr]
  unfold gZ;simp only[bD,aT,h1,if_true];rw[<-bD];unfold xM;rw[hw,if_neg (by omega),List.take_append_of_le_length (Nat.le_refl _),List.take_length]
def Xs(a b:aI): ∀ v:Int,nG (a++b) v=(nG a v).bind (nG b):=by
 induction a with
 | nil=>intro v;rfl
 | cons c r ih =>
   intro v;rw[bD];simp only[nG];split
   ·rfl
   ·exact ih _
def x2{d:Nat}(h:d<10): (UInt8.ofNat (48+d)).toNat=48+d:=by
 rw[UInt8.toNat_ofNat'];omega
def pY(u:Nat): Lib.decDigits u≠[]/\(∀ c ∈ Lib.decDigits u,dW c=true)/\(1<=u->((Lib.decDigits u).getD 0 0).toNat≠48)/\(u<=9223372036854775807->nG (Lib.decDigits u) 0=some (u:Int)):=by
 induction u using Nat.strongRecOn with
 | _ u ih =>
   rw[Lib.decDigits];split
   ·rename_i h;have ht:=x2 h;refine⟨by simp,fun c hc=>?_,fun h1=>?_,fun h2=>?_⟩
    ·simp only[List.mem_cons,List.not_mem_nil,or_false]at hc;subst hc;simp only[dW,ht,aq,decide_eq_true_eq];omega
    ·rw[aT,ht];omega
    ·simp only[nG,ht];rw[if_neg (by omega)]
     congr 1;omega
   ·rename_i h;obtain⟨i1,i2,i3,i4⟩:=ih (u / 10) (by omega);have ht:=x2 (d:=u % 10) (by omega);refine⟨by simp,fun c hc=>?_,fun h1=>?_,fun h2=>?_⟩
    ·rcases List.mem_append.1 hc with hc|hc
     ·exact i2 c hc
     ·simp only[List.mem_cons,List.not_mem_nil,or_false]at hc;subst hc;simp only[dW,ht,aq,decide_eq_true_eq];omega
    ·have:=i3 (by omega);generalize Lib.decDigits (u / 10)=w at *;cases w with
     | nil=>exact absurd rfl i1
     | cons c w=>simpa using this
    ·rw[Xs,i4 (by omega),gC];simp only[nG,ht];rw[if_neg (by omega)]
     congr 1;omega
def UY{n:Int}(h0:0<=n)(h1:n<=9223372036854775807): Lx Bd (Lib.itoa n) [(2,[],n)]:=by
 obtain⟨u,rfl⟩:∃ u:Nat,n=u:=⟨n.toNat,by omega⟩;rw[Lib.itoa_nonneg];obtain⟨i1,i2,i3,i4⟩:=pY u;have i4:=i4 (by omega)
 have i5:1<(Lib.decDigits u).length->((Lib.decDigits u).getD 0 0).toNat≠48:=fun hl=>i3 (by
  by_cases hu:u<10
  ·rw[Lib.decDigits,dif_pos hu]at hl;simp at hl
  ·omega)
 clear i3;generalize Lib.decDigits u=w at *;obtain⟨c,s',rfl⟩:∃ c s',w=c::s':=by cases w with|nil=>exact absurd rfl i1|cons c s'=>exact⟨c,s',rfl⟩
 have hd:=i2 c (by simp);have hd2:=hd;simp only[dW,aq,decide_eq_true_eq]at hd2;have hlt:mq c=false:=by simp[mq];omega
 rw[aT]at i5;refine Lx.one i1 (by rw[aT];omega) (fun r hr=>?_);have htw:((c::s')++r).takeWhile dW=c::s':=A3 i2 (fun d hd=>by have:=hr d hd;simp only[oS,Bool.or_eq_false_iff]at this;exact this.2);unfold gZ;simp only[bD,aT,hlt,hd,if_true,aB,if_false];rw[<-bD];unfold mu;rw[htw];simp only;rw[if_neg (fun hh=>i5 hh.1 (by simpa using hh.2)),i4]
def O1(s r:aI): (∀ c ∈ s,jG c=true)-> ∀(b:aI) (i:Nat),b.length+s.length<=40->jO (s.flatMap gW++(34::r)) b i=⟨3,b++s,0,i+(s.flatMap gW).length+1,0⟩:=by
 induction s with
 | nil =>
   intro _ b i hb;rw[fq,cP,jz,if_pos (by decide),if_neg (by simp at hb;omega)];simp
 | cons c s ih =>
   intro hp b i hb;have hc:=hp c (by simp);have hs:=fun d hd=>hp d (bF _ hd);rw[List.length_cons]at hb;have:=ih hs (b++[c]);rw[da,bt];unfold gW;split
   ·rename_i hq;rw[bD,jz,if_neg (by decide),if_pos (by decide)];rw[eY];dsimp only;rw[if_pos hq];have h2:=this (i+2) (by simp;omega);rw[show (fun c=>if c.toNat=34\/c.toNat=92 then [92,c]else [c])=gW from rfl,h2];simp;omega
   ·rename_i hq;rw[eY,jz,if_neg (by omega),if_neg (by omega),if_pos hc];have h2:=this (i+1) (by simp;omega);rw[show (fun c=>if c.toNat=34\/c.toNat=92 then [92,c]else [c])=gW from rfl,h2];simp;omega
def ZU{s:aI}(h:gk s=true): Lx B0 (jZ s) [(3,s,0)]:=by
 simp only[gk,aq,decide_eq_true_eq,aW]at h;refine Lx.one (by simp[jZ]) (by simp[jZ]) (fun r _=>?_);unfold gZ jZ;simp only[bD,aT];rw[if_neg (by decide),if_neg (by decide),if_pos (by decide),List.drop_succ_cons,List.drop_zero,bt,eY,O1 s r h.2 [] 1 (by simpa using h.1)];simp;omega
def Sj(v:eu): TK:=if v.kind=1 then(2,[],v.n)else if v.kind=2 then(3,v.s,0)else if v.kind=3 then(1,if v.n=1 then qV else ou,0)else (1,GB,0)
def abP{v:eu}(hr:bT v=true)(hn:v.kind≠1\/0<=v.n)(hm:v.n<=9223372036854775807): Lx Bd (eN v) [Sj v]:=by
 unfold eN Sj;unfold bT at hr;by_cases h1:v.kind=1
 ·rw[if_pos h1,if_pos h1];exact UY (by omega) hm
 by_cases h2:v.kind=2
 ·rw[if_neg h1,if_neg h1,if_pos h2,if_pos h2];rw[if_neg (by omega),if_neg h1,if_pos h2]at hr;simp only[aq]at hr;exact(ZU hr.2).weak (fun _ _=>trivial)
 rw[if_neg h1,if_neg h1,if_neg h2,if_neg h2];split
 ·split<;>exact Qi (by decide) (by decide) (by decide)
 ·exact Qi (by decide) (by decide) (by decide)
def wW(w:Int × List TK)(lvl:Int): List TK:=if w.1<lvl then(4,[40],0)::(w.2++[(4,[41],0)])else w.2
def afk: TK:=(1,[105,102],0)
def abQ: TK:=(1,thenS,0)
def abR: TK:=(1,Dn,0)
def adp(op:Int): TK:=(qU (dF op),(dF op).sign,0)
def adq(op:Int)(v:eu)(s:aI)(ws:List (Int × List TK)): List TK :=
 if op=1 then [Sj v]else if op=2 then [(1,s,0)]
 else if op=3 then(4,[45],0)::wW (ws.getD 0 default) 6
 else if op=16 then afk::(wW (ws.getD 0 default) 0++(abQ::(wW (ws.getD 1 default) 0++(abR::wW (ws.getD 2 default) 0))))
 else wW (ws.getD 0 default) (if(dF op).level=3 then 4 else(dF op).level)++(adp op::wW (ws.getD 1 default) ((dF op).level+1))
mutual
def Xt: Expr->List TK
 | .mk op v s l=>adq op v s (abS l)
def abS: List Expr->List (Int × List TK)
 | []=>[]
 | x::r=>(ek x.op,Xt x)::abS r
end
def GV(x:Expr)(lvl:Int): List TK:=wW (ek x.op,Xt x) lvl
def Qj{s:aI}{ks:List TK}(h:Lx Bd s ks)(hs:s.length<=200): ∃ T,bG s=(T,0,0)/\T.map tk=ks:=by
 obtain⟨f',ts,h1,h2,h3⟩:=h [] abO (s.length+1) 0 [] (by simp);refine⟨ts,?_,h3⟩;unfold bG;rw[if_neg (by omega)];rw[bS]at h2;rw[h2];cases f' with
 | zero=>simp at h1
 | succ f'=>simp[o_]
def tq(T:List Tok): Nat->List TK->Prop
 | _,[]=>True
 | p,k::ks=>(p<T.length/\tk (T.getD p default)=k)/\tq T (p+1) ks
def tq.app{T:List Tok}{a b:List TK}: ∀ {p:Nat},tq T p (a++b)↔tq T p a/\tq T (p+a.length) b:=by
 induction a with
 | nil=>intro p;simp[tq]
 | cons k a ih =>
   intro p;rw[bD];simp only[tq,ih,List.length_cons];rw[show p+(a.length+1)=p+1+a.length by omega,and_assoc,and_assoc,and_assoc]
def tq.map(T:List Tok): ∀(p:Nat),p<=T.length->tq T p ((T.drop p).map tk):=by
 intro p hp
 induction hn:T.length-p generalizing p with
 | zero=>rw[iN (by omega)];trivial
 | succ n ih =>
   have hlt:p<T.length:=by omega
   rw[fK hlt,aZ];refine⟨⟨hlt,?_⟩,ih (p+1) hlt (by omega)⟩;rw[aj,aL hlt];rfl
def UZ{T:List Tok}{p:Nat}{t:TK}{ks:List TK}(h:tq T p (t::ks))(k:Int)(s:aI): ni T p k s=(decide (t.1=k) && decide (t.2.1=s)):=by
 obtain⟨⟨h1,h2⟩,_⟩:=h;unfold ni;rw[<-h2];simp[h1,tk]
def ZV{T:List Tok}{p:Nat}(h:T.length<=p)(l:Int): wQ T p false l=none:=by
 unfold wQ;rw[dm];intro x _;have:ni T p (qU x) x.sign=false:=by simp only[ni,Bool.and_eq_false_iff,decide_eq_false_iff_not];left;omega
 simp[gD,this]
def Ls(T:List Tok)(p lvl:Nat): Prop:= ∀ l:Nat,lvl<=l->wQ T p false l=none
def Ls.end{T:List Tok}{p:Nat}(h:T.length<=p)(lvl:Nat): Ls T p lvl:=fun l _=>ZV h l
def Rd(T:List Tok)(x:Expr)(p q lvl:Nat): Prop:= ∀ f,8*(q-p)+(8-lvl)<=f->cM T f none lvl p=⟨x,q,false⟩
def Rd.paren{T:List Tok}{x:Expr}{p:Nat}{ks:List TK}(oZ:tq T p ((4,[40],0)::(ks++[(4,[41],0)])))(h:Rd T x (p+1) (p+1+ks.length) 0): Rd T x p (p+(ks.length+2)) 7:=by
 intro f hf;obtain⟨f,rfl⟩:∃ k,f=k+1:=⟨f-1,by omega⟩;have h1:=h f (by omega);have e1:ni T p 4 [40]=true:=by rw[UZ oZ];rfl
 have hc:tq T (p+1+ks.length) [(4,[41],0)]:=(tq.app.1 oZ.2).2;have e2:gD T (p+1+ks.length) false 4 [41]=true:=by unfold gD;rw[UZ hc];rfl
 simp only[cM];rw[if_neg (by omega),if_neg (by omega),if_pos (by omega)];unfold nq;rw[e1,if_pos rfl];dsimp only;rw[h1];unfold j7 sM;dsimp only;rw[e2,if_pos rfl];simp;omega
structure ags (x:Expr):Prop where
 pos:1<=(Xt x).length
 a:∀ (T:List Tok) (p lvl:Nat) (i:Int),i=lvl->lvl<=7->tq T p (GV x i)->Ls T (p+(GV x i).length) lvl->Rd T x p (p+(GV x i).length) lvl
 c:∀ (T:List Tok) (p L:Nat) (i:Int),i=L->1<=L->L<=5->L≠3->tq T p (GV x i)->Ls T (p+(GV x i).length) (L+1)-> ∀ f,8*(GV x i).length+(8-L)<=f-> ∃ f',f<=f'+1+(GV x i).length/\cM T f none L p=cM T f' (some x) L (p+(GV x i).length)
 f:∀ (T:List Tok) (p lvl:Nat),1<=lvl->tq T p (GV x lvl)->ni T p 1 [105,102]=false
def Xu(x:Expr): ∀ y,uk x y=true->x=y:=by
 induction x using Expr.ind with
 | h op v s l ih =>
   intro y h;obtain⟨o,w,u,m⟩:=y;simp only[uk,Expr.op,Expr.v,Expr.s,Expr.l,aq]at h;obtain⟨⟨⟨h1,h2⟩,h3⟩,h⟩:=h;obtain rfl:=of_decide_eq_true h1;obtain rfl:=of_decide_eq_true h2;obtain rfl:=of_decide_eq_true h3
   congr 1
   clear h1 h2 h3
   induction l generalizing m with
   | nil =>
     cases m with
     | nil=>rfl
     | cons y m=>simp[zW]at h
   | cons x l ihl =>
     cases m with
     | nil=>simp[zW]at h
     | cons y m =>
       simp only[zW,aq]at h;rw[ih x (by simp) y h.1,ihl (fun z hz=>ih z (bF _ hz)) m h.2]
def Ni{t:Test}(h:kK t=true): (t.kind=6/\c8 t.a=true/\c8 t.b=true)\/(1<=t.kind/\t.kind<=5/\c8 t.a=true/\t.b=x0/\t.lo=false/\t.hi=false):=by
 unfold kK at h;split at h
 ·rename_i h6;simp only[mK,aq]at h;exact .inl ⟨h6,h.1.1,h.2.1⟩
 ·simp only[mK,aq,decide_eq_true_eq,cD]at h;obtain⟨⟨⟨⟨h1,h2⟩,h3⟩,h4⟩,h5⟩:=h;exact .inr ⟨h1.1,h1.2,h2.1,Xu _ _ h3,h4,h5⟩
def tq.le{T:List Tok}{ks:List TK}: ∀ {p:Nat},tq T p ks->p<=T.length->p+ks.length<=T.length:=by
 induction ks with
 | nil=>intro p _ hp;exact hp
 | cons k ks ih=>intro p h hp;rw[List.length_cons];have:=ih h.2 h.1.1;omega
def GW(l:List Test): aI:=l.flatMap fun t=>nL++testW t
def Sk(t:Test)(r:List Test): Ag (t::r)=testW t++GW r:=by
 unfold Ag Lib.join GW
 induction r generalizing t with
 | nil=>simp[List.intercalate]
 | cons u r ih =>
   have h2:=ih u;simp only[aZ,da]at h2 ⊢;rw[List.intercalate_cons_cons,h2,bt,bt]
def rtT(T:List Tok): Prop:= ∀ q,((T.getD q default).kind=2->0<=(T.getD q default).n)/\((T.getD q default).kind=3->gk (T.getD q default).s=true)
def ad3{o:AY}(ho:o ∈ jq){x y:Expr}(hx:c8 x=true)(hy:c8 y=true): c8 (.mk o.op v0 [] [x,y])=true:=by
 have h:jH o.op=2/\o.op≠1/\o.op≠2:=by
  simp only[jq,List.mem_cons,List.not_mem_nil,or_false]at ho;rcases ho with rfl|rfl|rfl|rfl|rfl|rfl|rfl|rfl|rfl|rfl|rfl|rfl<;>decide
 simp[c8,qH,hx,hy,h.2.1,h.2.2,h.1]
def O2(r b:aI)(i:Nat): (∀ c ∈ b,jG c=true)->(jO r b i).e=0->gk (jO r b i).s=true:=by
 fun_induction jO r b i with
 | case1=>intro _ h;simp[PR.err]at h
 | case2=>intro _ h;simp[PR.err]at h
 | case3 c r b i h1 h2 =>
   intro hb _;simp only[gk,aq,decide_eq_true_eq,aW];exact⟨by omega,hb⟩
 | case4=>intro _ h;simp[PR.err]at h
 | case5 b i c h1 h2 d r' h3 ih =>
   intro hb h;refine ih (fun e he=>?_) h;rcases List.mem_append.1 he with he|he
   ·exact hb e he
   ·simp only[List.mem_cons,List.not_mem_nil,or_false]at he;subst he;simp only[jG,aq,decide_eq_true_eq];omega
 | case6=>intro _ h;simp[PR.err]at h
 | case7 c r b i h1 h2 h3 ih =>
   intro hb h;refine ih (fun e he=>?_) h;rcases List.mem_append.1 he with he|he
   ·exact hb e he
   ·simp only[List.mem_cons,List.not_mem_nil,or_false]at he;subst he;exact h3
 | case8=>intro _ h;simp[PR.err]at h
def Sl(s:aI): (gZ s).e=0->(gZ s).kind=3->gk (gZ s).s=true:=by
 have e:∀ k,(PR.err k).kind=0:=fun k=>rfl;unfold gZ;simp only;split
 ·intro _ h;unfold xM at h;split at h<;>simp[PR.err]at h
 split
 ·intro _ h;unfold mu at h;simp only at h;split at h
  ·simp[PR.err]at h
  ·split at h<;>simp[PR.err]at h
 split
 ·intro h _;exact O2 _ _ _ (fun c hc=>by cases hc) h
 ·intro _ h;unfold sK at h;split at h<;>simp[PR.err]at h
def Sm(f:Nat): ∀(s:aI) (pos:Nat) (acc:List Tok),(∀ t ∈ acc,t.kind=3->gk t.s=true)-> ∀ t ∈ (o_ f s pos acc).1,t.kind=3->gk t.s=true:=by
 induction f with
 | zero=>intro s pos acc h;exact h
 | succ f ih =>
   intro s pos acc h;cases s with
   | nil=>exact h
   | cons c r =>
     rw[rN];split
     ·exact ih r (pos+1) acc h
     ·split
      ·rename_i he;refine ih _ _ _ (fun t ht=>?_);rcases List.mem_append.1 ht with ht|ht
       ·exact h t ht
       ·simp only[List.mem_cons,List.not_mem_nil,or_false]at ht;subst ht;exact Sl _ he
      ·intro t ht;cases ht
def Qk(s:aI): rtT (bG s).1:=by
 intro q
 have h1:∀ t ∈ (bG s).1,0<=t.n/\t.n<=9223372036854775807:=by
  unfold bG;split
  ·intro t ht;cases ht
  ·exact UC _ _ _ _ (fun t ht=>by cases ht)
 have h2:∀ t ∈ (bG s).1,t.kind=3->gk t.s=true:=by
  unfold bG;split
  ·intro t ht;cases ht
  ·exact Sm _ _ _ _ (fun t ht=>by cases ht)
 by_cases hq:q<(bG s).1.length
 ·exact⟨fun _=>(h1 _ (bJ hq)).1,h2 _ (bJ hq)⟩
 ·rw[n5 (by omega)];exact⟨fun h=>absurd h (by decide),fun h=>absurd h (by decide)⟩
def GX{t:Table}{r:eE}(h:(kY t r).2.2=0): r.cells.length=t.ins.length/\r.outs.length=t.outs.length/\(∀ j,j<r.cells.length->(pB t r j).2=0)/\(∀ j,j<r.outs.length->(nu t r j).2=0)/\kY t r=(⟨me t r r.cells.length,qj t r r.outs.length⟩,0,0):=by
 by_cases hb:r.cells.length≠t.ins.length\/r.outs.length≠t.outs.length
 ·rw[J_ hb]at h;exact absurd h (by decide)
 have h1:r.cells.length=t.ins.length:=by omega
 have h2:r.outs.length=t.outs.length:=by omega
 have hc:∀ j,j<r.cells.length->(pB t r j).2=0:=by
  cases hq:(List.range r.cells.length).find? (fun k=>(pB t r k).2 != 0)with
  | some k =>
    exfalso;unfold kY at h;rw[if_neg hb,hq]at h;have:=dN hq;simp at this;exact this h
  | none =>
    intro j hj;have:=dm.1 hq j (cU.2 hj);simpa using this
 have ho:∀ j,j<r.outs.length->(nu t r j).2=0:=by
  cases hq:(List.range r.outs.length).find? (fun k=>(nu t r k).2 != 0)with
  | some k =>
    exfalso;unfold kY at h;rw[if_neg hb,lP (fun j hj=>by simp[hc j hj])]at h;dsimp only at h;rw[hq]at h;have:=dN hq;simp at this;exact this h
  | none =>
    intro j hj;have:=dm.1 hq j (cU.2 hj);simpa using this
 exact⟨h1,h2,hc,ho,M9 h1 h2 hc ho⟩
def CD{α : Type}[Inhabited α](f:Nat-> α){n k:Nat}(hk:k<n): ((List.range n).map f).getD k default=f k:=by
 rw[aj,List.getElem?_map,List.getElem?_range hk];rfl
def U0{w:Nat}{l:j4}(h:(tV w l).2.2=0): (∀ j,j<l.cells.length->(kM l j).2=0)/\(∀ j,j<l.outs.length->(n8 l j).2=0):=by
 have hc:∀ j,j<l.cells.length->(kM l j).2=0:=by
  cases hq:(List.range l.cells.length).find? (fun k=>(kM l k).2 != 0)with
  | some k =>
    exfalso;unfold tV at h;rw[hq]at h;have:=dN hq;simp at this;exact this h
  | none =>
    intro j hj;have:=dm.1 hq j (cU.2 hj);simpa using this
 refine⟨hc,?_⟩;cases hq:(List.range l.outs.length).find? (fun k=>(n8 l k).2 != 0)with
 | some k =>
   exfalso;unfold tV at h;rw[lP (fun j hj=>by simp[hc j hj])]at h;dsimp only at h;rw[hq]at h;have:=dN hq;simp at this;exact this h
 | none =>
   intro j hj;have:=dm.1 hq j (cU.2 hj);simpa using this
def qN{t:Table}(h:(ff t).2.2.2=0): (eG t).2.2.2=0/\(∀ j,j<(eG t).1.lines.length->(l7 t j).2.2=0)/\ff t=({ t with rules:=mM t (eG t).1.lines.length },0,0,0):=by
 by_cases he:(eG t).2.2.2=0
 ·have hr : ∀ j, j < (eG t).1.lines.length -> (l7 t j).2.2 = 0 := by
   cases hq:(List.range (eG t).1.lines.length).find? (fun k=>(l7 t k).2.2 != 0)with
   | some k =>
     exfalso;unfold ff at h;rw[if_neg (by omega),hq]at h;have:=dN hq;simp at this;exact this h
   | none =>
     intro j hj;have:=dm.1 hq j (cU.2 hj);simpa using this
  exact⟨he,hr,xY he hr⟩
 ·rw[yB he]at h;exact absurd h he
def x3(n:Int): Nat:=if n<0 then(2*(-1-n)+1).toNat else(2*n).toNat
def u9: Nat->Nat->aI
 | 0,c=>[UInt8.ofNat c]
 | f+1,c=>if c<128 then [UInt8.ofNat c]else UInt8.ofNat (128+c % 128)::u9 f (c / 128)
def iZ(n:Int): aI:=u9 9 (x3 n)
def gG(s:aI): aI:=iZ s.length++s
def Xv{n:Int}(h : -9223372036854775808<=n)(h':n<=9223372036854775807): x3 n<18446744073709551616:=by
 unfold x3;split<;>omega
def u8(n:Nat)(h:n<256): (UInt8.ofNat n).toNat=n:=by simp[UInt8.toNat_ofNat'];omega
def lu(v:eu): aI:=iZ v.kind++(if v.kind=2 then gG v.s else if v.kind=1\/v.kind=3 then iZ v.n else [])
def rA(l:List eu): aI:=iZ l.length++l.flatMap lu
def D9{v:eu}(h:bT v=true): v.kind=0/\v=v0\/v.kind=1/\v.s=[]\/v.kind=2/\v.n=0/\v.s.length<=40\/v.kind=3/\v.s=[]:=by
 obtain⟨k,n,s⟩:=v;unfold bT at h;dsimp only at h ⊢;split at h
 ·left;simp at h;simp[v0, *]
 split at h
 ·right;left;simp at h;simp[*]
 split at h
 ·right;right;left;simp[gk]at h;simp[*]
 split at h
 ·right;right;right;simp at h;simp[*]
 ·cases h
def iE(n:Int): Prop:= -9223372036854775808<=n/\n<=9223372036854775807
def y9(l:List eu): Prop:=l.length<=2 ^ 30/\ ∀ v ∈ l,iE v.n/\v.s.length<=2 ^ 30
def qX(o:Bool)(c:cR): aI:=gG c.name++iZ c.kind++(if o then rA c.order else [])
def lH(o:Bool)(l:List cR): aI:=iZ l.length++l.flatMap (qX o)
def nx(r:eE): aI:=r.cells.flatMap gG++r.outs.flatMap gG
def x4(t:Table): aI:=gG t.name++iZ t.aM++iZ t.agg++lH false t.ins++lH true t.outs++iZ t.rules.length++t.rules.flatMap nx
def jI(t:Table): aI × Int:=if(ff t).2.2.2≠0 then([],(ff t).2.2.2)else if ie (ff t).1 t=false then([],4)else if 1400<(x4 t).length then([],5)else (x4 t,0)
def O4{t:Table}{s:aI}(h:jI t=(s,0)): (ff t).2.2.2=0/\ie (ff t).1 t=true/\s=x4 t/\s.length<=1400:=by
 unfold jI at h;split at h
 ·rename_i h1;injection h with _ h2;exact absurd h2 h1
 split at h
 ·injection h with _ h2;cases h2
 split at h
 ·injection h with _ h2;cases h2
 ·rename_i h1 h2 h3;injection h with h4 _;exact⟨by omega,by simpa using h2,h4.symm,by rw[<-h4];omega⟩
def Kc{l:List cR}(h:jc l=0): l.length<=6/\ ∀ c ∈ l,eV c.name=true/\1<=c.kind/\c.kind<=3:=by
 have h6:l.length<=6:=by
  unfold jc at h;split at h
  ·omega
  ·omega
 refine⟨h6,fun c hc=>?_⟩;obtain⟨i,hi,rfl⟩:=bC hc;have e:l[i]=l.getD i default:=by rw[aj,aL hi];rfl
 rw[e];refine⟨?_,GO h hi⟩;unfold jc at h;rw[if_neg (by omega)]at h;split at h
 ·rename_i j hj;have:=dN hj;simp[h]at this
 ·rename_i hn;have:=dm.1 hn i (by simpa using hi);have h0:oI l i=0:=by simpa using this
  unfold oI at h0;split at h0
  ·omega
  ·rename_i hh;have:=not_or.1 hh;simpa using this.1
def Nj{s:aI}(h:eV s=true): s.length<=16:=by
 simp only[eV,aq,decide_eq_true_eq]at h;exact h.1.2
def Nk{l:List cR}{b:Bool}(h:jt l b=0): jc l=0/\0<l.length/\ ∀ c ∈ l,iG c b=true:=by
 obtain⟨h1,h2⟩:=xW h;refine⟨h1,h2,fun c hc=>?_⟩;unfold jt at h;rw[if_neg (by omega)]at h;split at h
 ·omega
 ·rename_i hh;have:=(not_or.1 hh).2;rw[List.any_eq_true]at this;cases hq:iG c b with
  | true=>rfl
  | false=>exact absurd ⟨c,hc,by rw[hq];rfl⟩ this
def Sn{c:cR}{b:Bool}(h:iG c b=true)(hk:sU c): (b=false->c.order=[])/\c.order.length<=8/\ ∀ v ∈ c.order,bT v=true/\iE v.n:=by
 unfold iG at h;cases b with
 | false =>
   rw[if_neg (by simp),decide_eq_true_eq]at h;have:=List.length_eq_zero_iff.1 h;rw[this];exact⟨fun _=>rfl,by simp,by simp⟩
 | true =>
   rw[if_pos rfl,aq,decide_eq_true_eq,aW]at h;refine⟨fun h=>(by cases h),h.2.2,fun v hv=>?_⟩;refine⟨?_,(hk.2.2 v hv).1⟩;obtain⟨i,hi,rfl⟩:=bC hv;have:=h.1 i (by simpa using hi);simp only[pA,aq]at this;have e:c.order[i]=c.order.getD i default:=by rw[aj,aL hi];rfl
   rw[e];exact this.1.1
def O5{t:Table}(h:jd t=true): 1<=t.aM/\t.aM<=6/\0<=t.agg/\t.agg<=4:=by
 unfold jd at h;split at h
 ·cases h
 split at h
 ·omega
 split at h
 ·cases h
 ·omega
def y_{α : Type}{p : α-> α->Bool}(hp:∀ x y,p x y=true->x=y): ∀ {l m:List α},gy p l m=true->l=m:=by
 intro l
 induction l with
 | nil => intro m h; cases m with
   | nil=>rfl
   | cons=>simp[gy]at h
 | cons x l ih => intro m h; cases m with
   | nil=>simp[gy]at h
   | cons y m =>
     simp only[gy,aq]at h;rw[hp _ _ h.1,ih h.2]
def GY(a b:cR)(h:gX a b=true): a=b:=by
 obtain⟨a1,a2,a3⟩:=a;obtain⟨b1,b2,b3⟩:=b;simp only[gX,aq,beq_iff_eq,decide_eq_true_eq]at h;obtain⟨⟨rfl,rfl⟩,h3⟩:=h;rw[y_ (fun x y h=>by simpa using h) h3]
def O6(a b:eE)(h:jE a b=true): a=b:=by
 obtain⟨a1,a2⟩:=a;obtain⟨b1,b2⟩:=b;simp only[jE,aq]at h;rw[y_ (fun x y h=>by simpa using h) h.1,y_ (fun x y h=>by simpa using h) h.2]
def sW{a b:Table}(h:ie a b=true): a=b:=by
 obtain⟨a1,a2,a3,a4,a5,a6⟩:=a;obtain⟨b1,b2,b3,b4,b5,b6⟩:=b;simp only[ie,aq,beq_iff_eq,decide_eq_true_eq]at h;obtain⟨⟨⟨⟨⟨rfl,rfl⟩,rfl⟩,h4⟩,h5⟩,h6⟩:=h;rw[y_ GY h4,y_ GY h5,y_ O6 h6]
def Xw: ∀(k c:Nat),(u9 k c).length<=k+1:=by
 intro k
 induction k with
 | zero=>intro c;simp[u9]
 | succ k ih => intro c; rw [u9]; split
                ·simp
                ·have:=ih (c / 128);simp;omega
def ji(n:Int): (iZ n).length<=10:=Xw 9 _
structure dX where
 kind:Int
 table:Table
 name:aI
 ver:Int
 row:List eu
 lz:Int
 nS:Int
deriving Inhabited
def eS: dX:=⟨0,iH,[],0,[],0,0⟩
def mw(a b:dX): Bool:=decide (a.kind=b.kind) && ie a.table b.table && a.name==b.name && decide (a.ver=b.ver) && gy (fun x y=>x==y) a.row b.row && decide (a.lz=b.lz) && decide (a.nS=b.nS)
def sX(c:dX): Bool:=(decide (c.kind=1) || ie c.table iH) && (decide (c.kind=2\/c.kind=3) ||(c.name==[] && decide (c.ver=0))) && (decide (c.kind=2) || decide (c.row.length=0)) && (decide (c.kind=5\/c.kind=6) || decide (c.lz=0)) && (decide (c.kind=5) || decide (c.nS=0))
def oz(n:Int): Bool:=decide (0<=n/\n<=1125899906842624)
def dY(c:dX): Int :=
 if c.kind=1/\(jI c.table).2≠0 then(jI c.table).2
 else if 1<=c.kind/\c.kind<=9/\sX c=true/\((c.kind=2\/c.kind=3)->eV c.name=true/\0<=c.ver/\c.ver<=2147483648)/\oz c.lz=true/\oz c.nS=true/\c.row.length<=6/\c.row.all bT=true then 0 else 2
def iJ(c:dX): Prop:=iE c.kind/\jQ c.table/\c.name.length<=2 ^ 30/\iE c.ver/\y9 c.row/\iE c.lz/\iE c.nS
def qO{c:dX}(h:dY c=0): (c.kind=1->(jI c.table).2=0)/\(1<=c.kind/\c.kind<=9/\sX c=true/\((c.kind=2\/c.kind=3)->eV c.name=true/\0<=c.ver/\c.ver<=2147483648)/\oz c.lz=true/\oz c.nS=true/\c.row.length<=6/\c.row.all bT=true):=by
 unfold dY at h;split at h
 ·rename_i h1;exact absurd h h1.2
 ·rename_i h1;split at h
  ·rename_i h2;exact⟨fun hk=>Classical.not_not.1 fun hn=>h1 ⟨hk,hn⟩,h2⟩
  ·cases h
def Ap{c:dX}(h:sX c=true): (c.kind=1\/c.table=iH)/\((c.kind=2\/c.kind=3)\/c.name=[]/\c.ver=0)/\(c.kind=2\/c.row=[])/\((c.kind=5\/c.kind=6)\/c.lz=0)/\(c.kind=5\/c.nS=0):=by
 simp only[sX,aq,c_,decide_eq_true_eq,beq_iff_eq,List.length_eq_zero_iff]at h;obtain⟨⟨⟨⟨h1,h2⟩,h3⟩,h4⟩,h5⟩:=h;exact⟨h1.imp id sW,h2,h3,h4,h5⟩
def rQ: jQ iH:=⟨by decide,⟨by decide,fun c hc=>(by cases hc)⟩,⟨by decide,fun c hc=>(by cases hc)⟩,by decide,fun c hc=>(by cases hc)⟩
def kx: iE 0:=⟨by decide,by decide⟩
def IA: iJ eS:=⟨kx,rQ,by decide,kx,⟨by decide,fun c hc=>(by cases hc)⟩,kx,kx⟩
def Nl{v:eu}(h:bT v=true): v.s.length<=40:=by
 rcases D9 h with⟨_,h⟩|⟨_,h⟩|⟨_,_,h⟩|⟨_,h⟩
 ·rw[h];decide
 ·rw[h];decide
 ·exact h
 ·rw[h];decide
def wrap_u64(x:Int): fE .u64 x=x % 18446744073709551616:=rfl
def wrap_u8(x:Int): fE .u8 x=x % 256:=rfl
def xor_zero(k:IntKind)(x:Nat)(h:x<2 ^ k.bits): ((BitVec.ofInt k.bits (x:Int)) ^^^ (BitVec.ofInt k.bits 0)).toNat=x:=by
 have:BitVec.ofInt k.bits 0=0#k.bits:=by simp
 rw[this,BitVec.xor_zero];simp[Nat.mod_eq_of_lt h]
def So(x:Nat)(h:x<18446744073709551616)(y:Int)(hy:y % 18446744073709551616=18446744073709551615): ((BitVec.ofInt 64 (x:Int)) ^^^ (BitVec.ofInt 64 y)).toNat=18446744073709551615-x:=by
 have e:BitVec.ofInt 64 y=BitVec.allOnes 64:=by
  apply BitVec.eq_of_toNat_eq;rw[BitVec.toNat_ofInt,BitVec.toNat_allOnes];omega
 rw[e,BitVec.xor_allOnes,BitVec.toNat_not];have:(BitVec.ofInt 64 (x:Int)).toNat=x:=by rw[BitVec.toNat_ofInt];omega
 rw[this]
def U1{n:Int}(h : -9223372036854775808<=n/\n<=9223372036854775807): jN .xor .u64 (fE .u64 (fE .u64 n*2)) (fE .u64 (n.fdiv 9223372036854775808))=x3 n:=by
 rw[lY];show fE .u64 (((BitVec.ofInt 64 (fE .u64 (fE .u64 n*2))) ^^^ (BitVec.ofInt 64 (fE .u64 (n.fdiv 9223372036854775808)))).toNat:Int)=x3 n;rw[Int.fdiv_eq_ediv_of_nonneg _ (by decide)];simp only[wrap_u64];unfold x3;by_cases hn:n<0
 ·rw[if_pos hn];have e1:(n % 18446744073709551616*2 % 18446744073709551616:Int)=((2*n+18446744073709551616).toNat:Int):=by omega
  rw[e1,So _ (by omega) _ (by omega)];omega
 ·rw[if_neg hn];have e1:(n % 18446744073709551616*2 % 18446744073709551616:Int)=((2*n).toNat:Int):=by omega
  have e2:(n / 9223372036854775808 % 18446744073709551616:Int)=0:=by omega
  rw[e1,e2];have:=xor_zero .u64 (2*n).toNat (by show _<18446744073709551616;omega);have e3:IntKind.u64.bits=64:=rfl;rw[e3]at this;rw[this];omega
def Xx(w k x:Nat)(hx:x<2 ^ w)(hk:k<=w): ((BitVec.ofInt w (x:Int)) &&& (BitVec.ofInt w ((2 ^ k-1:Nat):Int))).toNat=x % 2 ^ k:=by
 have h2:2 ^ k-1<2 ^ w:=dG (Nat.sub_lt (Nat.pow_pos (by decide)) (by decide)) (Nat.pow_le_pow_right (by decide) hk);rw[BitVec.toNat_and];have e1:(BitVec.ofInt w (x:Int)).toNat=x:=by rw[BitVec.ofInt_natCast,BitVec.toNat_ofNat,Nat.mod_eq_of_lt hx]
 have e2:(BitVec.ofInt w ((2 ^ k-1:Nat):Int)).toNat=2 ^ k-1:=by rw[BitVec.ofInt_natCast,BitVec.toNat_ofNat,Nat.mod_eq_of_lt h2]
 rw[e1,e2,Nat.and_two_pow_sub_one_eq_mod]
def Xy{x:Int}{c:Nat}(h:x % 256=((c % 256:Nat):Int)): jN .and .u8 (fE .u8 x) 127=((c % 128:Nat):Int):=by
 rw[lY];show fE .u8 (((BitVec.ofInt 8 (fE .u8 x)) &&& (BitVec.ofInt 8 127)).toNat:Int)=_;have:=Xx 8 7 (c % 256) (by omega) (by decide);have e:((2 ^ 7-1:Nat):Int)=127:=by decide
 rw[e]at this;rw[wrap_u8 x,h,this,wrap_u8];omega
def abT{w k x:Nat}{y:Nat}(hx:x<2 ^ k)(hw:2 ^ k*y+x<2 ^ w): ((BitVec.ofInt w (x:Int)) |||(BitVec.ofInt w ((2 ^ k*y:Nat):Int))).toNat=2 ^ k*y+x:=by
 rw[BitVec.toNat_or];have e1:(BitVec.ofInt w (x:Int)).toNat=x:=by rw[BitVec.ofInt_natCast,BitVec.toNat_ofNat,Nat.mod_eq_of_lt (by omega)]
 have e2:(BitVec.ofInt w ((2 ^ k*y:Nat):Int)).toNat=2 ^ k*y:=by rw[BitVec.ofInt_natCast,BitVec.toNat_ofNat,Nat.mod_eq_of_lt (by omega)]
 rw[e1,e2,Nat.or_comm,Nat.two_pow_add_eq_or_of_lt hx]
def U2{d:Nat}(h:d<128): jN .or .u8 (d:Int) 128=((128+d:Nat):Int):=by
 rw[lY];show fE .u8 (((BitVec.ofInt 8 (d:Int)) |||(BitVec.ofInt 8 128)).toNat:Int)=_;have:=abT (w:=8) (k:=7) (x:=d) (y:=1) (by omega) (by omega);have e:((2 ^ 7*1:Nat):Int)=128:=by decide
 rw[e]at this;rw[this,wrap_u8];omega
def IB(c:Nat): UInt8:=UInt8.ofNat (c % 128)
def Lt(c:Nat): UInt8:=UInt8.ofNat (128+c % 128)
def Nn(c:Nat): ((c % 128:Nat):Int)=((IB c).toNat:Int):=by rw[IB,u8 _ (by omega)]
def U3(c:Nat): jN .or .u8 ((IB c).toNat:Int) 128=((Lt c).toNat:Int):=by
 rw[<-Nn,U2 (by omega),Lt,u8 _ (by omega)]
def Ql(s:aI)(b:UInt8): qE s++[AV.int .u8 b.toNat]=qE (s++[b]):=by simp
def Xz{k c:Nat}(h:c<128): u9 k c=[IB c]:=by
 rw[IB,Nat.mod_eq_of_lt h];cases k with
 | zero=>rfl
 | succ k=>rw[u9,if_pos h]
def U4{k c:Nat}(h:128<=c): u9 (k+1) c=Lt c::u9 k (c / 128):=by rw[u9,if_neg (by omega)];rfl
def Sp(n:Int)(h:iE n): aP aK 121 [I n] (.int .u64 (x3 n)):=by
 refine aR K0 ?_;intro Q aF aG aH;repeat' first|refine aE ?_|refine aD ?_ ?_<;>intro hw<;>try omega|fail
 refine aU ?_ rfl;exact congrArg (AV.int .u64) (U1 h)
def O7(c:Nat): aP aK 122 [.int .u64 c] (.int .u8 ((IB c).toNat)):=by
 refine aR Bb ?_;intro Q aF aG aH;repeat' first|refine aE ?_|refine aD ?_ ?_<;>intro hw<;>try omega|fail
 refine aU ?_ rfl;refine congrArg (AV.int .u8) ?_;rw[<-Nn];exact Xy (by omega)
def mO(n:Int)(h:iE n): aP aK 76 [I n] (.str (iZ n)):=by
 have hc:=Xv h.1 h.2;obtain⟨E,hE⟩:∃ E,iZ n=E:=⟨_,rfl⟩;rw[hE];unfold iZ at hE;have h1:=Sp n h;generalize x3 n=c0 at *;refine aR Mf ?_;intro Q aF aG aH;repeat' first|refine aE ?_|refine aD ?_ ?_<;>intro hw<;>try omega|fail
 with_reducible refine bZ [3,4,8,9,10,11,12,13,14,15,16,17] (fun q:Nat × aI × Nat=>[(3,.int .u64 q.2.2),(4,.own E1 0 q.2.1.length 0 q.2.1.length)]) (fun q=>[.vec E1 (qE q.2.1)]) (fun q=>q.1<=9/\q.2.1.length=q.1/\q.2.2*128 ^ q.1<18446744073709551616/\E=q.2.1++u9 (9-q.1) q.2.2) (fun q=>10-q.1) ((0,[],c0)) ?_ ?_ ?_ ?_
 ·exact⟨by omega,rfl,by show c0*1<_;omega,by simp[hE]⟩
 ·rfl
 ·exact at_
 rintro⟨i,s,c⟩ r ⟨g1,g2,g3,g4⟩;dsimp only at g1 g2 g3 g4;have hl:=O7 c;have hm:=U3 c
 have hq:(c:Int).fdiv (2 ^ (Int.toNat 7).min 64)=((c / 128:Nat):Int):=by
  show(c:Int).fdiv 128=_;rw[Int.fdiv_eq_ediv_of_nonneg _ (by decide)];omega
 by_cases hb:128<=c
 ·have hi : i < 9 := by
   rcases Nat.lt_or_ge i 9 with h|h
   ·exact h
   ·obtain rfl:i=9:=by omega
    have e:(128:Nat) ^ 9=9223372036854775808:=by decide
    rw[e]at g3;omega
  obtain⟨k,hk⟩:∃ k,9-i=k+1:=⟨8-i,by omega⟩;rw[hk,U4 hb]at g4;repeat' first|simp (disch:=omega) only[go_sem,aF,aG,aH,hm,hq,Ql]|refine aE ?_|refine aD ?_ ?_<;>intro hw<;>try omega|fail
  refine⟨(i+1,s++[Lt c],c / 128),?_,?_,?_,dH,at_⟩<;>(try dsimp only)
  ·refine⟨by omega,by simp[g2],?_,?_⟩
   ·have e2 : c / 128 * 128 ^ (i + 1) = 128 * (c / 128) * 128 ^ i := by
     rw[Nat.pow_succ,Nat.mul_comm (128 ^ i) 128,<-Nat.mul_assoc,Nat.mul_comm (c / 128) 128]
    exact Nat.lt_of_le_of_lt (by rw[e2];exact aX _ (by omega)) g3
   ·have:9-(i+1)=k:=by omega
    rw[this];simp[g4]
  ·omega
  all_goals (simp[g2];done)
 ·rw[Xz (by omega)]at g4;repeat' first|simp (disch:=omega) only[go_sem,aF,aG,aH,Ql]|refine aE ?_|refine aD ?_ ?_<;>intro hw<;>try omega|fail
  exact aU (by rw[g4]) rfl
def vR(s:aI)(hs:s.length<=2 ^ 61): aP aK 75 [.str s] (.str (gG s)):=by
 have h1:=mO s.length ⟨by omega,by omega⟩;have h2:=ji s.length;unfold gG;generalize iZ s.length=x at *;refine aR KY ?_;intro Q aF aG aH;have afl:((x.length+s.length:Nat):Int)<=IntKind.i64.max:=by show _<=(9223372036854775807:Int);omega
 repeat' first|refine aE ?_|refine aD ?_ ?_<;>intro hw<;>try omega|fail
 exact aU rfl rfl
def wX(v:eu): aI × Int:=if bT v then(lu v,0)else ([],2)
def GZ(v:eu): (lu v).length<=30+v.s.length:=by
 have h1:=ji v.kind;have h2:=ji v.n;have h3:=ji v.s.length;unfold lu gG;rw[aA];split
 ·rw[aA];omega
 split
 ·omega
 ·simp;omega
def O8(k n:Int)(s:aI)(hn:iE n)(hs:s.length<=2 ^ 60): aP aK 162 [.agg [I k,I n,.str s]] (.bO [.str (wX ⟨k,n,s⟩).1,I (wX ⟨k,n,s⟩).2]):=by
 have c1:=qG k n s hn.1 hn.2;obtain⟨E,hE⟩:∃ E,wX ⟨k,n,s⟩=E:=⟨_,rfl⟩;rw[hE];unfold wX lu at hE;dsimp only at hE;have hk:=@D9 ⟨k,n,s⟩;dsimp only at hk;generalize bT ⟨k,n,s⟩=b at *;cases b
 ·simp only[mZ,aB,if_false]at c1 hE;refine aR yR ?_;intro Q aF aG aH;repeat' first|refine aE ?_|refine aD ?_ ?_<;>intro hw<;>try omega|fail
  exact b_ (by rw[<-hE]) rfl
 have hk:=hk rfl;simp only[mZ,if_true]at c1 hE;have c2:=mO k ⟨by omega,by omega⟩;have c3:=mO n hn;have c4:=vR s (by omega);have l1:=ji k;have l2:=ji n;have l3:(gG s).length<=10+s.length:=by unfold gG;have:=ji s.length;rw[List.length_append];omega
 generalize iZ k=x at *;generalize iZ n=y at *;generalize gG s=z at *;have a1:((x.length+y.length:Nat):Int)<=IntKind.i64.max:=by show _<=(9223372036854775807:Int);omega
 have a2:((x.length+z.length:Nat):Int)<=IntKind.i64.max:=by show _<=(9223372036854775807:Int);omega
 refine aR yR ?_;intro Q aF aG aH;repeat' first|refine aE ?_|refine aD ?_ ?_<;>intro hw<;>try omega|fail
 all_goals first
  | exact bN
  |(refine b_ ?_ rfl;rw[<-hE];simp_all;done)
  |(refine b_ ?_ rfl;rw[<-hE,if_neg (by omega),if_neg (by omega),bS];done)
