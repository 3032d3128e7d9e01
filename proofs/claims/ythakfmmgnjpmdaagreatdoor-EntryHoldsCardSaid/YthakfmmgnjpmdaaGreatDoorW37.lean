/- Part. -/
import Derived.Test.YthakfmmgnjpmdaaGreatDoorW36
set_option linter.all false
set_option maxHeartbeats 4000000
namespace Go.Proofs.YthakfmmgnjpmdaaGreatDoor
open Go.AM
set_option maxRecDepth 4000
def EP(p:ux × Int): AV:= .bH [nN p.1,I p.2]
def xN{σ : ae}{r0 r1:AV}{o:ux}{e c:Int}{p:ux × Int}(hp:p=(o,c))(h:I o.err=I e)(h1:View σ r0 (dL o.rules))(h2:View σ r1 (dU o.rows)): ∃ r,Out.ret (oneOf [.agg [I e,r0,r1],I c])=Out.ret r/\View σ r (EP p):=by
 subst hp;unfold EP nN;rw[h];exact fD (.cons (View.nV (.cons (.refl _ rfl) (.cons h1 (.cons h2 (.nil _))))) (.cons (.refl _ rfl) (.nil _)))
structure V_ (r:Ready) (row:List aL):Prop where
 JE:Fy r
 TT:qo row
 afD:0<r.table.outs.length
 ord:∀ c ∈ r.table.outs,c.order.length<=2 ^ 60
 agg:r.table.bZ=5->0<=r.table.agg/\r.table.agg<=4
 sum:lN r.table.ins row=true->r.table.bZ=5->r.table.agg=1-> ∀ l ∈ r.lines,(jc r.table.ins row l.outs []).2=0->(ack (jc r.table.ins row l.outs []).1).kind=0\/(ack (jc r.table.ins row l.outs []).1).kind=1
def CV{r:Ready}{row:List aL}(h:(dS r row).2.2=21): di r row=(⟨0,[],[]⟩,21):=by unfold di;exact if_pos h
def Gs{r:Ready}{row:List aL}(h:(dS r row).2.2≠21)(h0:(dS r row).2.2≠0): di r row=(⟨(dS r row).2.2,[(dS r row).2.1],[]⟩,0):=by unfold di;rw[if_neg h,if_pos h0]
def Bf{r:Ready}{row:List aL}(h0:(dS r row).2.2=0)(h1:r.table.bZ=1/\1<(dS r row).1.length): di r row=(⟨19,(dS r row).1,[]⟩,0):=by unfold di;rw[if_neg (by omega),if_neg (by omega),if_pos h1]
def EU{r:Ready}{row:List aL}(h0:(dS r row).2.2=0)(h1:¬ (r.table.bZ=1/\1<(dS r row).1.length)): di r row=if(kF r row (dS r row).1 []).2.2≠0 then(⟨(kF r row (dS r row).1 []).2.2,[(kF r row (dS r row).1 []).2.1],[]⟩,0)else (mM r.table (dS r row).1 (kF r row (dS r row).1 []).1,0):=by unfold di;rw[if_neg (by omega),if_neg (by omega),if_neg h1]
def QA{o1 o2 o3:bj}{τ : List bj}{M:List (List aL)}{n:Nat}(h:n=M.length): View (o1::o2::o3::jS M:: τ) (.own E1 3 n 0 n) (dU M):=by
 subst h
 have:=View.own (σ:=o1::o2::o3::jS M:: τ) none E1 3 0 M.length (M.map aW) (M.map aW) rfl (by simp) (by simp) (fun i hi=>by
  rw[bF];exact .refl _ (jF (Ju _) i))
 rw[List.length_map]at this;exact this
def Wa(r:Ready)(row:List aL)(h:V_ r row): aM aH 20 [kZ r,aW row] (EP (di r row)):=by
 have c1:=YJ r h.JE row h.TT;have hR:=(MP h.JE h.TT).1;have d1:=CV (r:=r) (row:=row);have d2:=Gs (r:=r) (row:=row);have d3:=Bf (r:=r) (row:=row);have d4:=EU (r:=r) (row:=row);obtain⟨D,hD⟩:∃ D,di r row=D:=⟨_,rfl⟩;rw[hD]at d1 d2 d3 d4 ⊢;clear hD;have cT:=fun o1 o2=>abt r h.JE row h.TT (dS r row).1 hR.2.1 hR.2.2 o1 o2;have hT:=HO h.JE h.TT (q:=(dS r row).1) (acc:=[]) hR.2.1 (fun a h=>by cases h);have cC:=fun(hp:¬ (r.table.bZ=5/\r.table.agg=0)) rows hr hlen hw=>V8 r.table hp (dS r row).1 rows h.JE.outs h.afD h.ord hr hlen hw;have hs:=fun(hp:r.table.bZ=5) (ha:r.table.agg=0) rows (hl:rows.length<40) hw σ k gO=>JC r.table hp ha (dS r row).1 rows hl hw σ k gO;have aiU:=h.JE.outs;have h24:=hR.2.2;clear h hR;generalize dS r row=R at *;obtain⟨rules,akf,e⟩:=R;dsimp only at *;have hch:∀ rows,mM r.table rules rows=mM r.table rules rows:=fun _=>rfl;simp only[kZ,bV,fj,o_,aW,eRu,dL]at c1 cT ⊢;by_cases MQ:e=21
 ·have d1:=d1 MQ;subst d1;subst MQ;clear cT cC hs d2 d3 d4 hT;refine aR sn ?_ (by simp[EP,nN,AV.dz,AV.cg]);intro Q aB aC aD;repeat' first|refine au ?_|refine aq ?_ ?_<;>intro hw<;>try omega|fail
  all_goals first|exact xN rfl rfl (.aA _) (.aA _)|exact a_|skip
 by_cases h0:e≠0
 ·have d2:=d2 MQ h0;subst d2;clear cT cC hs d1 d3 d4 hT;refine aR sn ?_ (by simp[EP,nN,AV.dz,AV.cg]);intro Q aB aC aD;repeat' first|refine au ?_|refine aq ?_ ?_<;>intro hw<;>try omega|fail
  all_goals first|exact xN rfl rfl uB (.aA _)|exact a_|skip
 have h0:e=0:=by omega
 subst h0;by_cases hu:r.table.bZ=1/\1<rules.length
 ·have d3:=d3 rfl hu;subst d3;clear cT cC hs d1 d2 d4 hT;refine aR sn ?_ (by simp[EP,nN,AV.dz,AV.cg]);intro Q aB aC aD;repeat' first|refine au ?_|refine aq ?_ ?_<;>intro hw<;>try omega|fail
  all_goals first|exact xN rfl rfl nM (.aA _)|exact a_|skip
 have d4:=d4 rfl hu;clear d1 d2 d3;generalize kF r row rules []=T at *;obtain⟨rows,akg,e⟩:=T;dsimp only at *;refine aR sn ?_ (by simp[EP,nN,AV.dz,AV.cg]);intro Q aB aC aD;repeat' first|refine au ?_|with_reducible refine cI ((cT _ _)) ?_|refine aq ?_ ?_<;>intro hw<;>try omega|fail
 all_goals
  rintro o s (⟨he,rfl,τ,rfl⟩|⟨he,rfl,o3,τ,rfl⟩)
  ·dsimp only at he;rw[if_pos he]at d4;subst d4;clear cT cC hs hT hch;repeat' first|refine au ?_|refine aq ?_ ?_<;>intro hw<;>try omega|fail
   all_goals first|exact xN rfl rfl uB (.aA _)|exact a_|skip
  ·dsimp only at he;subst he;rw[if_neg (by simp)]at d4
   obtain⟨_,hlen,hw⟩:(0:Int)=0/\rows.length=[].length+rules.length/\ ∀ a ∈ rows,a.length=r.table.outs.length/\ ∀ v ∈ a,gk v:=by
    rcases hT with hT|hT
    ·exact hT
    ·exact absurd rfl (Fz hT.1).1
   have hlen:rules.length=rows.length:=by simp at hlen;omega
   clear hT cT;by_cases hp:r.table.bZ=5/\r.table.agg=0
   ·have Yv:=fun o1 o2 o3 τ=>hs hp.1 hp.2 rows (by omega) (fun a h=>by have:=(hw a h).1;omega) (o1::o2::o3::jS rows:: τ) 3 rfl;have hch:mM r.table rules rows=⟨0,rules,ez rows⟩:=by unfold mM;rw[if_pos hp.1,if_pos hp.2];rfl
    rw[hch]at d4;have hlM:=nX rows;clear hs cC;generalize ez rows=M at *;subst d4;simp only[dP,ic,bV,fj,dL]at Yv;repeat' first|refine au ?_|with_reducible refine cI ((Yv _ _ _ _)) ?_|refine aq ?_ ?_<;>intro hw<;>try omega|fail
    rintro o s' ⟨rfl,kM,rfl⟩;repeat' first|refine au ?_|refine aq ?_ ?_<;>intro hw<;>try omega|fail
    all_goals first|exact xN rfl rfl nM (QA hlM.symm)|exact a_|skip
   ·have fY:=cC hp rows (by omega) hlen (fun a h=>⟨(hw a h).1,fun v hv=>((hw a h).2 v hv).2.1⟩);clear hs cC;generalize mM r.table rules rows=O at *;subst d4;have hf:=fun o1 o2 o3 τ=>aM.freeze (az:=[dP r.table,dL rules,sN 3 rows]) (σ:=o1::o2::o3::jS rows:: τ) (q:=3) (o:=jS rows) fY rfl rfl (.cons (.refl _ (by simp)) (.cons (.refl _ (by simp)) (.cons (QA (o1:= .dead) (o2:= .dead) (o3:= .dead) (τ:=[]) rfl) (.nil _)))) (by simp);simp only[dP,ic,bV,fj,dL,nN,dU]at hf;clear fY;repeat' first|refine au ?_|with_reducible refine cI ((hf _ _ _ _)) ?_|refine aq ?_ ?_<;>intro hw<;>try omega|fail
    rintro o s' ⟨rfl,rfl⟩;repeat' first|refine au ?_|refine aq ?_ ?_<;>intro hw<;>try omega|fail
    all_goals first|exact xN rfl rfl nM zu|exact a_|skip
def sx(n:Int): Nat:=if n<0 then(2*(-1-n)+1).toNat else(2*n).toNat
def yG(c:Nat): Int:=if c % 2=1 then -1-(c / 2:Nat)else (c / 2:Nat)
def uC: Nat->Nat->aO
 | 0,c=>[UInt8.ofNat c]
 | f+1,c=>if c<128 then [UInt8.ofNat c]else UInt8.ofNat (128+c % 128)::uC f (c / 128)
def ja(n:Int): aO:=uC 9 (sx n)
def r_(i c:Nat): aO->Int × aO × Int
 | []=>(0,[],3)
 | b :: r => if (0 < i /\ b.toNat = 0) \/ (i = 9 /\ 1 < b.toNat) then (0, [], 4)
   else if b.toNat<128 then(yG (c+b.toNat % 128*128 ^ i),r,0)
   else r_ (i+1) (c+b.toNat % 128*128 ^ i) r
def takeN(s:aO): Int × aO × Int:=r_ 0 0 s
def n_(s:aO): aO:=ja s.length++s
def jd(s:aO)(most:Int): aO × aO × Int :=
 if(takeN s).2.2≠0 then([],[],(takeN s).2.2)else if(takeN s).1<0 then([],[],4)else if(takeN s).1>most then([],[],5)else if(takeN s).1>(takeN s).2.1.length then([],[],3)
 else((takeN s).2.1.take (takeN s).1.toNat,(takeN s).2.1.drop (takeN s).1.toNat,0)
def Wb(n:Int): yG (sx n)=n:=by
 unfold yG sx;split<;>split<;>omega
def QB{n:Int}(h : -9223372036854775808<=n)(h':n<=9223372036854775807): sx n<18446744073709551616:=by
 unfold sx;split<;>omega
def u8(n:Nat)(h:n<256): (UInt8.ofNat n).toNat=n:=by simp[UInt8.toNat_ofNat'];omega
def abw(r:aO): ∀(k i c:Nat),i+k=9->c*128 ^ i<18446744073709551616->(0<i->0<c)-> ∀ d,r_ i d (uC k c++r)=(yG (d+c*128 ^ i),r,0):=by
 intro k
 induction k with
 | zero =>
   intro i c h1 h2 h3 d;obtain rfl:i=9:=by omega
   have e:(128:Nat) ^ 9=9223372036854775808:=by decide
   rw[e]at h2;rw[uC,gu,r_,u8 c (by omega),if_neg (by omega),if_pos (by omega),iz (by omega)]
 | succ k ih =>
   intro i c h1 h2 h3 d;rw[uC];by_cases hc:c<128
   ·rw[if_pos hc,gu,r_,u8 c (by omega),if_neg (by omega),if_pos hc,iz hc]
   ·rw[if_neg hc,bt,r_,u8 _ (by omega),if_neg (by omega),if_neg (by omega)]
    have e2:c / 128*128 ^ (i+1)=128*(c / 128)*128 ^ i:=by
     rw[Nat.pow_succ,gZ (128 ^ i) 128,<-Nat.mul_assoc,gZ (c / 128) 128]
    have e:(128+c % 128) % 128=c % 128:=by omega
    rw[ih (i+1) (c / 128) (by omega) (Nat.lt_of_le_of_lt (by rw[e2];exact aX _ (by omega)) h2) (by omega),e,e2,Nat.add_assoc,← bC];rw[show c % 128+128*(c / 128)=c by omega]
def tE{n:Int}(h : -9223372036854775808<=n/\n<=9223372036854775807)(r:aO): takeN (ja n++r)=(n,r,0):=by
 have:=QB h.1 h.2;unfold takeN ja;rw[abw r 9 0 (sx n) (by omega) (by omega) (by omega) 0];simp[Wb]
def JF{s:aO}{most:Int}(h:s.length<=most)(h':(s.length:Int)<=9223372036854775807)(r:aO): jd (n_ s++r) most=(s,r,0):=by
 unfold jd n_;rw[aP,tE ⟨by omega,h'⟩];dsimp only;rw[if_neg (by omega),if_neg (by omega),if_neg (by omega),if_neg (by rw[List.length_append];omega)];simp
def adG: ∀(s:aO) (i c:Nat),(r_ i c s).2.1.length<=s.length/\((r_ i c s).2.2=0->(r_ i c s).2.1.length<s.length)/\((r_ i c s).2.2≠0->(r_ i c s).1=0/\(r_ i c s).2.1=[]):=by
 intro s
 induction s with
 | nil=>intro i c;simp[r_]
 | cons b r ih =>
   intro i c;rw[r_];split
   ·simp
   ·split
    ·simp
    ·have:=ih (i+1) (c+b.toNat % 128*128 ^ i);simp only[List.length_cons];refine⟨by omega,fun h=>?_,this.2.2⟩;have:=this.2.1 h;omega
def abx{c:Nat}(h:c<18446744073709551616): -9223372036854775808<=yG c/\yG c<=9223372036854775807:=by
 unfold yG;split<;>omega
def adH: ∀(s:aO) (i c:Nat),i<=9->c<128 ^ i-> -9223372036854775808<=(r_ i c s).1/\(r_ i c s).1<=9223372036854775807:=by
 intro s
 induction s with
 | nil=>intro i c _ _;simp[r_]
 | cons b r ih =>
   intro i c hi hc;rw[r_];split
   ·simp
   ·rename_i h1;have hb:b.toNat<256:=b.toNat_lt;split
    ·rename_i h2;apply abx;by_cases h9:i=9
     ·subst h9;have e:(128:Nat) ^ 9=9223372036854775808:=by decide
      rw[e]at hc ⊢;omega
     ·have e:(128:Nat) ^ (i+1)<=128 ^ 9:=Nat.pow_le_pow_right (by decide) (by omega);rw[Nat.pow_succ]at e;have e2:(128:Nat) ^ 9=9223372036854775808:=by decide
      have:b.toNat % 128*128 ^ i<=127*128 ^ i:=aX _ (by omega);omega
    ·rename_i h2;have h9:i≠9:=fun e=>by subst e;omega
     apply ih _ _ (by omega);rw[Nat.pow_succ];have:b.toNat % 128*128 ^ i<=127*128 ^ i:=aX _ (by omega);omega
def qS(s:aO): -9223372036854775808<=(takeN s).1/\(takeN s).1<=9223372036854775807:=adH s 0 0 (by omega) (by decide)
def jK(s:aO): (takeN s).2.1.length<=s.length/\((takeN s).2.2=0->(takeN s).2.1.length<s.length)/\((takeN s).2.2≠0->(takeN s).1=0/\(takeN s).2.1=[]):=adG s 0 0
def EW(s:aO)(m:Int): (jd s m).1.length<=s.length/\(jd s m).2.1.length<=s.length/\((jd s m).2.2=0->(jd s m).2.1.length<s.length/\(jd s m).1.length<=m)/\((jd s m).2.2≠0->(jd s m).1=[]/\(jd s m).2.1=[]):=by
 have:=jK s;unfold jd;repeat' split
 all_goals first
  |(refine⟨by simp,by simp,fun h=>?_,fun _=>⟨rfl,rfl⟩⟩;dsimp only at h;omega)
  |(dsimp only;rw[List.length_take,List.length_drop];refine⟨by omega,by omega,fun _=>?_,fun h=>absurd rfl h⟩;have:=this.2.1 (by omega);omega)
def lQ(v:aL): aO:=ja v.kind++(if v.kind=2 then n_ v.s else if v.kind=1\/v.kind=3 then ja v.n else [])
def EY(v:aL)(r:aO): aL × aO × Int:=if br v then(v,r,0)else (v0,[],4)
def mC(s:aO): aL × aO × Int :=
 if(takeN s).2.2≠0 then(v0,[],(takeN s).2.2)
 else if(takeN s).1=0 then(v0,(takeN s).2.1,0)
 else if(takeN s).1=1\/(takeN s).1=3 then
  if(takeN (takeN s).2.1).2.2≠0 then(v0,[],(takeN (takeN s).2.1).2.2)else EY ⟨(takeN s).1,(takeN (takeN s).2.1).1,[]⟩ (takeN (takeN s).2.1).2.1
 else if(takeN s).1=2 then
  if(jd (takeN s).2.1 40).2.2≠0 then(v0,[],(jd (takeN s).2.1 40).2.2)else EY ⟨2,0,(jd (takeN s).2.1 40).1⟩ (jd (takeN s).2.1 40).2.1
 else(v0,[],4)
def oV(l:List aL): aO:=ja l.length++l.flatMap lQ
def kQ: Nat->List aL->aO->List aL × aO × Int
 | 0,out,s=>(out,s,0)
 | k+1,out,s=>if(mC s).2.2≠0 then([],[],(mC s).2.2)else kQ k (out++[(mC s).1]) (mC s).2.1
def jz(s:aO)(most:Int): List aL × aO × Int :=
 if(takeN s).2.2≠0 then([],[],(takeN s).2.2)else if(takeN s).1<0 then([],[],4)else if(takeN s).1>most then([],[],5)
 else kQ (takeN s).1.toNat [] (takeN s).2.1
def zY{v:aL}(h:br v=true): v.kind=0/\v=v0\/v.kind=1/\v.s=[]\/v.kind=2/\v.n=0/\v.s.length<=40\/v.kind=3/\v.s=[]:=by
 obtain⟨k,n,s⟩:=v;unfold br at h;dsimp only at h ⊢;split at h
 ·left;simp at h;simp[v0, *]
 split at h
 ·right;left;simp at h;simp[*]
 split at h
 ·right;right;left;simp[kO]at h;simp[*]
 split at h
 ·right;right;right;simp at h;simp[*]
 ·cases h
def Si{v:aL}(h:br v=true)(hn : -9223372036854775808<=v.n/\v.n<=9223372036854775807)(r:aO): mC (lQ v++r)=(v,r,0):=by
 have hk:=zY h;have hT:∀ x,takeN (ja v.kind++x)=(v.kind,x,0):=fun x=>tE (by omega) x;unfold mC lQ;rw[aP,hT];dsimp only;rw[if_neg (by simp)];rcases hk with⟨hk,hv⟩|⟨hk,hs⟩|⟨hk,h0,hs⟩|⟨hk,hs⟩
 ·rw[if_pos hk,if_neg (by omega),if_neg (by omega),hv];rfl
 ·have e:(if v.kind=2 then n_ v.s else if v.kind=1\/v.kind=3 then ja v.n else [])=ja v.n:=by rw[if_neg (by omega),if_pos (by omega)]
  rw[if_neg (by omega),if_pos (by omega),e,tE hn];dsimp only;rw[if_neg (by simp),<-hs];unfold EY;rw[if_pos h]
 ·rw[if_neg (by omega),if_neg (by omega),if_pos hk,if_pos hk,JF (by omega) (by omega)];dsimp only;rw[if_neg (by simp)];unfold EY;rw[<-hk,<-h0,if_pos h]
 ·have e:(if v.kind=2 then n_ v.s else if v.kind=1\/v.kind=3 then ja v.n else [])=ja v.n:=by rw[if_neg (by omega),if_pos (by omega)]
  rw[if_neg (by omega),if_pos (by omega),e,tE hn];dsimp only;rw[if_neg (by simp),<-hs];unfold EY;rw[if_pos h]
def YT(v:aL)(r:aO)(hv : -9223372036854775808<=v.n/\v.n<=9223372036854775807): (EY v r).2.1.length<=r.length/\br (EY v r).1=true/\(-9223372036854775808<=(EY v r).1.n/\(EY v r).1.n<=9223372036854775807):=by
 unfold EY;split
 ·rename_i h;exact⟨by simp,h,hv⟩
 ·exact⟨by simp,by decide,by decide⟩
def JG: br v0=true/\(-9223372036854775808<=v0.n/\v0.n<=9223372036854775807):=by decide
def QC(s:aO): (mC s).2.1.length<=s.length/\((mC s).2.2=0->(mC s).2.1.length<s.length)/\br (mC s).1=true/\(-9223372036854775808<=(mC s).1.n/\(mC s).1.n<=9223372036854775807):=by
 have h1:=jK s;have h2:=jK (takeN s).2.1;have h3:=EW (takeN s).2.1 40;unfold mC;split
 ·exact⟨by simp,fun h=>absurd h (by assumption),JG⟩
 have h4:=h1.2.1 (by omega);split
 ·exact⟨by dsimp only;omega,fun _=>h4,JG⟩
 split
 ·split
  ·exact⟨by simp,fun h=>absurd h (by assumption),JG⟩
  ·have:=YT ⟨(takeN s).1,(takeN (takeN s).2.1).1,[]⟩ (takeN (takeN s).2.1).2.1 (qS _);exact⟨by omega,fun _=>by omega,this.2⟩
 split
 ·split
  ·exact⟨by simp,fun h=>absurd h (by assumption),JG⟩
  ·have:=YT ⟨2,0,(jd (takeN s).2.1 40).1⟩ (jd (takeN s).2.1 40).2.1 ⟨by simp,by simp⟩;exact⟨by omega,fun _=>by omega,this.2⟩
 ·exact⟨by simp,fun h=>absurd h (by decide),JG⟩
def QE(r:aO): ∀(l out:List aL),(∀ v ∈ l,br v=true/\(-9223372036854775808<=v.n/\v.n<=9223372036854775807))->kQ l.length out (l.flatMap lQ++r)=(out++l,r,0):=by
 intro l
 induction l with
 | nil=>intro out _;simp[kQ]
 | cons v l ih =>
   intro out h;have hv:=h v (by simp);rw[List.length_cons,kQ,fh,aP,Si hv.1 hv.2];dsimp only;rw[if_neg (by omega),ih _ (fun w hw=>h w (by simp[hw]))];simp
def YU{l:List aL}{most:Int}(h:∀ v ∈ l,br v=true/\(-9223372036854775808<=v.n/\v.n<=9223372036854775807))(hl:l.length<=most)(hl2:l.length<=2 ^ 60)(r:aO): jz (oV l++r) most=(l,r,0):=by
 unfold jz oV;rw[aP,tE ⟨by omega,by omega⟩];dsimp only;rw[if_neg (by omega),if_neg (by omega),if_neg (by omega),eL,QE r l [] h];simp
def MR : ∀ (k : Nat) (out : List aL) (s : aO), (∀ v ∈ out, br v = true /\ (-9223372036854775808 <= v.n /\ v.n <= 9223372036854775807)) ->
    (kQ k out s).2.1.length<=s.length/\(∀ v ∈ (kQ k out s).1,br v=true/\(-9223372036854775808<=v.n/\v.n<=9223372036854775807))/\(kQ k out s).1.length<=out.length+s.length/\((kQ k out s).2.2≠0->(kQ k out s).1=[]/\(kQ k out s).2.1=[])/\(kQ k out s).1.length<=out.length+k:=by
 intro k
 induction k with
 | zero=>intro out s h;exact⟨by simp[kQ],h,by simp[kQ],fun h=>absurd rfl h,by simp[kQ]⟩
 | succ k ih =>
   intro out s h;have hv:=QC s;rw[kQ];split
   ·exact⟨by simp,by simp,by simp,fun _=>⟨rfl,rfl⟩,by simp⟩
   ·rename_i h1;have h2:=hv.2.1 (by omega)
    have:=ih (out++[(mC s).1]) (mC s).2.1 (fun w hw=>by
     rcases List.mem_append.1 hw with hw|hw
     ·exact h w hw
     ·rw[List.mem_singleton.1 hw];exact hv.2.2)
    rw[List.length_append,List.length_singleton]at this;exact⟨by omega,this.2.1,by omega,this.2.2.2.1,by omega⟩
def HP(s:aO)(most:Int): (jz s most).2.1.length<=s.length/\(∀ v ∈ (jz s most).1,br v=true/\(-9223372036854775808<=v.n/\v.n<=9223372036854775807))/\(jz s most).1.length<=s.length/\((jz s most).2.2≠0->(jz s most).1=[]/\(jz s most).2.1=[])/\(0<=most->(jz s most).1.length<=most):=by
 have h1:=jK s;unfold jz;repeat' split
 ·exact⟨by simp,by simp,by simp,fun _=>⟨rfl,rfl⟩,by simp⟩
 ·exact⟨by simp,by simp,by simp,fun _=>⟨rfl,rfl⟩,by simp⟩
 ·exact⟨by simp,by simp,by simp,fun _=>⟨rfl,rfl⟩,by simp⟩
 ·have:=MR (takeN s).1.toNat [] (takeN s).2.1 (by simp);rw[List.length_nil]at this;exact⟨by omega,this.2.1,by omega,this.2.2.2.1,fun _=>by omega⟩
def p8(n:Int): Prop:= -9223372036854775808<=n/\n<=9223372036854775807
def oF(l:List aL): Prop:=l.length<=2 ^ 30/\ ∀ v ∈ l,p8 v.n/\v.s.length<=2 ^ 30
def oG(s:aO)(b:Bool): Int × aO × Bool:=((takeN s).1,(takeN s).2.1,b ||(takeN s).2.2 != 0)
def FA(s:aO)(b:Bool): aO × aO × Bool:=((jd s 1400).1,(jd s 1400).2.1,b ||(jd s 1400).2.2 != 0)
def yH(o:Option Int)(s:aO)(b:Bool): List aL × aO × Bool:=match o with
 | none=>([],s,b)
 | some m=>((jz s m).1,(jz s m).2.1,b ||(jz s m).2.2 != 0)
def yI{n:Int}(h:p8 n)(r:aO): oG (ja n++r) false=(n,r,false):=by unfold oG;rw[tE h];rfl
def Wc{s:aO}(h:s.length<=1400)(r:aO): FA (n_ s++r) false=(s,r,false):=by unfold FA;rw[JF (by omega) (by omega)];rfl
def QG{s:aO}(h:jU s=true): s.length<=16:=by
 simp only[jU,aj,decide_eq_true_eq]at h;exact h.1.2
def afE: p8 0:=⟨by decide,by decide⟩
def HQ{v:aL}(h:br v=true): v.s.length<=40:=by
 rcases zY h with⟨_,h⟩|⟨_,h⟩|⟨_,_,h⟩|⟨_,h⟩
 ·rw[h];decide
 ·rw[h];decide
 ·exact h
 ·rw[h];decide
def aby: ∀(k c:Nat),(uC k c).length<=k+1:=by
 intro k
 induction k with
 | zero=>intro c;simp[uC]
 | succ k ih => intro c; rw [uC]; split
                ·simp
                ·have:=ih (c / 128);simp;omega
def kx(n:Int): (ja n).length<=10:=aby 9 _
structure jL where
 table:aO
 ver:Int
 input:List aL
 err:Int
 rules:List Int
 rows:List (List aL)
deriving Inhabited
def uD: jL:=⟨[],0,[],0,[],[]⟩
def jl(l:List aL): Bool:=decide (l.length<=6) && l.all br
def uE(l:List Int)(k:Nat): Int:=if k=0 then -1 else l.getD (k-1) 0
def zw(l:List Int)(k:Nat): Bool:=decide (uE l k<l.getD k 0/\l.getD k 0<24)
def sy(l:List Int): Bool:=(List.range l.length).all (zw l)
def pG(e:jL): Bool:=jU e.table && decide (1<=e.ver/\e.ver<=2147483648) && decide (0<=e.err/\e.err<=99) && sy e.rules && decide (e.rows.length<=24) && jl e.input && e.rows.all jl
def lH(e:jL): aO:=n_ e.table++ja e.ver++oV e.input++(ja e.err++ja e.rules.length)++e.rules.flatMap ja++ja e.rows.length++e.rows.flatMap oV
def pH(e:jL): Int:=if pG e=false then 2 else if 1400<(lH e).length then 5 else 0
def jm(e:jL): aO × Int:=if pH e≠0 then([],pH e)else (lH e,0)
def qp: Nat->List Int->aO->Bool->List Int × aO × Bool
 | 0,out,s,b=>(out,s,b)
 | k+1,out,s,b=>if b then(out,s,b)else qp k (out++[(oG s b).1]) (oG s b).2.1 (oG s b).2.2
def rB: Nat->List (List aL)->aO->Bool->List (List aL) × aO × Bool
 | 0,out,s,b=>(out,s,b)
 | k+1,out,s,b=>if b then(out,s,b)else rB k (out++[(yH (some 6) s b).1]) (yH (some 6) s b).2.1 (yH (some 6) s b).2.2
def FB(s:aO)(b:Bool): List Int × aO × Bool:=qp (oG s b).1.toNat [] (oG s b).2.1 (oG s b).2.2
def FC(s:aO)(b:Bool): List (List aL) × aO × Bool:=rB (oG s b).1.toNat [] (oG s b).2.1 (oG s b).2.2
def vN(s:aO): jL × aO × Bool :=
 let t:=FA s false
 let v:=oG t.2.1 t.2.2
 let i:=yH (some 6) v.2.1 v.2.2
 let e:=oG i.2.1 i.2.2
 let r:=FB e.2.1 e.2.2
 let q:=FC r.2.1 r.2.2
 (⟨t.1,v.1,i.1,e.1,r.1,q.1⟩,q.2.1,q.2.2)
def wB(s:aO): jL × Int:=if(vN s).2.2=true\/jm (vN s).1≠(s,0)then (uD,4)else ((vN s).1,0)
def KW{l:List Int}(h:sy l=true){k:Nat}(hk:k<l.length): uE l k<l.getD k 0/\l.getD k 0<24:=by
 have:=aV.1 h k (cV.2 hk);simpa[zw]using this
def adI{l:List Int}(h:sy l=true): ∀ k,k<l.length->(k:Int)<=l.getD k 0:=by
 intro k
 induction k with
 | zero=>intro hk;have:=(KW h hk).1;unfold uE at this;rw[if_pos rfl]at this;omega
 | succ k ih =>
   intro hk;have h1:=ih (by omega);have h2:=(KW h hk).1;unfold uE at h2;rw[if_neg (by omega),Nat.add_sub_cancel]at h2;omega
def QH{l:List Int}(h:sy l=true): l.length<=24:=by
 rcases Nat.lt_or_ge 24 l.length with hn|hn
 ·have h1:=adI h 24 hn;have h2:=(KW h hn).2;omega
 ·exact hn
def JH{e:jL}(h:pG e=true): jU e.table=true/\(1<=e.ver/\e.ver<=2147483648)/\(0<=e.err/\e.err<=99)/\sy e.rules=true/\e.rows.length<=24/\jl e.input=true/\ ∀ l ∈ e.rows,jl l=true:=by
 simp only[pG,aj,decide_eq_true_eq,aV]at h;obtain⟨⟨⟨⟨⟨⟨h1,h2⟩,h3⟩,h4⟩,h5⟩,h6⟩,h7⟩:=h;exact⟨h1,h2,h3,h4,h5,h6,h7⟩
def qt(e:jL): Prop:=e.table.length<=2 ^ 30/\p8 e.ver/\oF e.input/\p8 e.err/\(e.rules.length<=2 ^ 30/\ ∀ n ∈ e.rules,p8 n)/\e.rows.length<=2 ^ 30/\ ∀ l ∈ e.rows,oF l
def JI{l:List aL}(h:jl l=true): l.length<=6/\ ∀ v ∈ l,br v=true:=by
 simp only[jl,aj,decide_eq_true_eq,aV]at h;exact h
def QI{l:List aL}(h:jl l=true)(ok:oF l)(r:aO): yH (some 6) (oV l++r) false=(l,r,false):=by
 obtain⟨h1,h2⟩:=JI h;unfold yH;dsimp only;rw[YU (fun v hv=>⟨h2 v hv,(ok.2 v hv).1⟩) (by omega) (by omega)];rfl
def Wd(r:aO): ∀(l out:List (List aL)),(∀ x ∈ l,jl x=true/\oF x)->rB l.length out (l.flatMap oV++r) false=(out++l,r,false):=by
 intro l
 induction l with
 | nil=>intro out _;simp[rB]
 | cons c l ih =>
   intro out h;rw[List.length_cons,rB,fh,aP,QI (h c (by simp)).1 (h c (by simp)).2,if_neg (by simp),ih _ (fun w hw=>h w (by simp[hw]))];simp
def Wf(r:aO): ∀(l out:List Int),(∀ n ∈ l,p8 n)->qp l.length out (l.flatMap ja++r) false=(out++l,r,false):=by
 intro l
 induction l with
 | nil=>intro out _;simp[qp]
 | cons c l ih =>
   intro out h;rw[List.length_cons,qp,fh,aP,yI (h c (by simp)),if_neg (by simp),ih _ (fun w hw=>h w (by simp[hw]))];simp
def Wh{e:jL}(ok:qt e)(h:pG e=true): vN (lH e)=(e,[],false):=by
 obtain⟨h1,h2,h3,h4,h5,h6,h7⟩:=JH h;obtain⟨o1,o2,o3,o4,o5,o6,o7⟩:=ok;have hn:=QG h1;have hl:=QH h4;unfold vN lH;simp only[aP];rw[Wc (by omega)];dsimp only;rw[yI o2];dsimp only;rw[QI h6 o3];dsimp only;rw[yI o4];dsimp only;unfold FB;rw[yI ⟨by omega,by omega⟩];dsimp only;rw[eL,Wf _ _ _ o5.2];dsimp only;unfold FC;rw[yI ⟨by omega,by omega⟩];dsimp only;have:=Wd [] e.rows [] (fun x hx=>⟨h7 x hx,o7 x hx⟩);rw[bB]at this;rw[eL,this];rfl
def zZ{e:jL}(h:pH e=0): pG e=true/\(lH e).length<=1400:=by
 unfold pH at h;split at h
 ·cases h
 ·rename_i h1;split at h
  ·cases h
  ·exact⟨by simpa using h1,by omega⟩
def z8{e:jL}(h:(jm e).2=0): pH e=0/\jm e=(lH e,0):=by
 unfold jm at *;split at h
 ·rename_i h1;exact absurd h h1
 ·rename_i h1;exact⟨by omega,by rw[if_neg h1]⟩
def YV{e:jL}(ok:qt e)(h:(jm e).2=0): wB (jm e).1=(e,0):=by
 obtain⟨h1,h2⟩:=z8 h;obtain⟨h3,h4⟩:=zZ h1;rw[h2];unfold wB;dsimp only;rw[Wh ok h3,if_neg (by rw[h2];simp)]
def abz (n : Nat) : ∀ (k : Nat) (out : List Int) (s : aO) (b : Bool), out.length + s.length + (if b then 0 else 1) <= n -> (∀ x ∈ out, p8 x) ->
    (qp k out s b).1.length+(qp k out s b).2.1.length+(if(qp k out s b).2.2 then 0 else 1)<=n/\ ∀ x ∈ (qp k out s b).1,p8 x:=by
 intro k
 induction k with
 | zero=>intro out s b h1 h2;rw[qp];exact⟨h1,h2⟩
 | succ k ih =>
   intro out s b h1 h2;rw[qp];cases b with
   | true=>rw[if_pos rfl];exact⟨h1,h2⟩
   | false =>
     simp only[aG,if_false]at h1 ⊢;have hg:=qS s;have hl:=jK s;refine ih _ _ _ ?_ ?_
     ·unfold oG;rw[List.length_append,List.length_singleton];dsimp only;by_cases he:(takeN s).2.2=0
      ·have:=hl.2.1 he;rw[he];simp;omega
      ·have:((takeN s).2.2 != 0)=true:=by simpa using he
       simp[this];omega
     ·intro x hx;rcases List.mem_append.1 hx with hx|hx
      ·exact h2 x hx
      ·rw[List.mem_singleton.1 hx];exact hg
def QJ(s:aO)(m:Int)(h:(jz s m).2.2=0): (jz s m).2.1.length<s.length:=by
 have hn:=jK s;unfold jz at *;split at h
 ·rename_i h1;exact absurd h h1
 rename_i h1;rw[if_neg h1];split at h
 ·cases h
 rename_i h2;rw[if_neg h2];split at h
 ·cases h
 rename_i h3;rw[if_neg h3];have:=(MR (takeN s).1.toNat [] (takeN s).2.1 (fun v hv=>by cases hv)).1;have:=hn.2.1 (by omega);omega
def abA (n : Nat) (hn : n <= 2 ^ 30) : ∀ (k : Nat) (out : List (List aL)) (s : aO) (b : Bool), out.length + s.length + (if b then 0 else 1) <= n -> (∀ x ∈ out, oF x) ->
    (rB k out s b).1.length+(rB k out s b).2.1.length+(if(rB k out s b).2.2 then 0 else 1)<=n/\ ∀ x ∈ (rB k out s b).1,oF x:=by
 intro k
 induction k with
 | zero=>intro out s b h1 h2;rw[rB];exact⟨h1,h2⟩
 | succ k ih =>
   intro out s b h1 h2;rw[rB];cases b with
   | true=>rw[if_pos rfl];exact⟨h1,h2⟩
   | false =>
     simp only[aG,if_false]at h1 ⊢;have hr:=HP s 6;have e:yH (some 6) s false=((jz s 6).1,(jz s 6).2.1,(jz s 6).2.2 != 0):=by simp[yH]
     rw[e];have hlt:=QJ s 6;refine ih _ _ _ ?_ ?_
     ·rw[List.length_append,List.length_singleton];dsimp only;by_cases he:(jz s 6).2.2=0
      ·have:=hlt he;rw[if_neg (by simp[he])];omega
      ·rw[if_pos (by simpa using he)];omega
     ·intro x hx;rcases List.mem_append.1 hx with hx|hx
      ·exact h2 x hx
      ·rw[List.mem_singleton.1 hx];exact⟨by have:=hr.2.2.2.2 (by omega);dsimp only;omega,fun v hv=>⟨(hr.2.1 v hv).2,by have:=HQ (hr.2.1 v hv).1;omega⟩⟩
def abB{s:aO}(hs:s.length<=2 ^ 20): qt (vN s).1:=by
 have h1:=EW s 1400;have l1:=jK (jd s 1400).2.1;have r1:=qS (jd s 1400).2.1;unfold vN;obtain⟨t,ht⟩:∃ t,FA s false=t:=⟨_,rfl⟩;have e1:t.1.length<=s.length/\t.2.1.length<=s.length:=by rw[<-ht];exact⟨h1.1,h1.2.1⟩
 rw[ht];dsimp only;obtain⟨v,hv⟩:∃ v,oG t.2.1 t.2.2=v:=⟨_,rfl⟩;have e2:p8 v.1/\v.2.1.length<=t.2.1.length:=by rw[<-hv];exact⟨qS _,(jK _).1⟩
 rw[hv];obtain⟨i,hi⟩:∃ i,yH (some 6) v.2.1 v.2.2=i:=⟨_,rfl⟩;have hr:=HP v.2.1 6
 have e3:oF i.1/\i.2.1.length<=v.2.1.length:=by
  rw[<-hi];exact⟨⟨by have:=hr.2.2.2.2 (by omega);show(jz v.2.1 6).1.length<=_;omega,fun x hx=>⟨(hr.2.1 x hx).2,by have:=HQ (hr.2.1 x hx).1;omega⟩⟩,hr.1⟩
 rw[hi];obtain⟨e,he⟩:∃ e,oG i.2.1 i.2.2=e:=⟨_,rfl⟩;have e4:p8 e.1/\e.2.1.length<=i.2.1.length:=by rw[<-he];exact⟨qS _,(jK _).1⟩
 rw[he];unfold FB;obtain⟨n,hn⟩:∃ n,oG e.2.1 e.2.2=n:=⟨_,rfl⟩;have e5:n.2.1.length<=e.2.1.length:=by rw[<-hn];exact(jK _).1
 rw[hn];obtain⟨a1,a2⟩:=abz (2 ^ 20+1) n.1.toNat [] n.2.1 n.2.2 (by simp;split<;>omega) (fun x hx=>by cases hx);generalize qp n.1.toNat [] n.2.1 n.2.2=q at *;unfold FC;obtain⟨m,hm⟩:∃ n,oG q.2.1 q.2.2=n:=⟨_,rfl⟩;have e6:m.2.1.length<=q.2.1.length:=by rw[<-hm];exact(jK _).1
 rw[hm];obtain⟨b1,b2⟩:=abA (2 ^ 21) (by decide) m.1.toNat [] m.2.1 m.2.2 (by simp;split<;>omega) (fun x hx=>by cases hx);exact⟨by dsimp only;omega,e2.1,e3.1,e4.1,⟨by dsimp only;omega,a2⟩,by dsimp only;omega,b2⟩
def xO: qt uD:=⟨by decide,afE,⟨by decide,fun c hc=>(by cases hc)⟩,afE,⟨by decide,fun c hc=>(by cases hc)⟩,by decide,fun c hc=>(by cases hc)⟩
def mD(a b:jL): Bool:=decide (a.table=b.table) && decide (a.ver=b.ver) && fO (fun x y=>x==y) a.input b.input && decide (a.err=b.err) && fO (fun x y:Int=>x==y) a.rules b.rules && fO (fO fun x y=>x==y) a.rows b.rows
def uF(a:jL): mD a a=true:=by
 unfold mD;rw[Cq a.input (fun x _=>by simp),Cq a.rules (fun x _=>by simp),Cq a.rows (fun x _=>Cq x (fun y _=>by simp))];simp
