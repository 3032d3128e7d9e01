/- Part of a proof: see Root. -/
import Derived.Test.YtmbgnaoilncbnaaGreatDoorZ32
set_option linter.unnecessarySimpa false
set_option linter.unusedSimpArgs false
set_option linter.unusedVariables false
namespace Go.Proofs.YtmbgnaoilncbnaaGreatDoor
open Go.AM
set_option maxRecDepth 4000
theorem EI{t:Table}{r:cK}(h:(fY t r).2.2=0): r.cells.length=t.ins.length∧r.outs.length=t.outs.length∧(∀ j,j<r.cells.length→(jk t r j).2=0)∧(∀ j,j<r.outs.length→(gB t r j).2=0)∧fY t r=(⟨iw t r r.cells.length,lI t r r.outs.length⟩,0,0):=by
 by_cases hb:r.cells.length≠t.ins.length∨r.outs.length≠t.outs.length
 ·rw[HX hb]at h;exact absurd h (by decide)
 have h1:r.cells.length=t.ins.length:=by omega
 have h2:r.outs.length=t.outs.length:=by omega
 have hc:∀ j,j<r.cells.length→(jk t r j).2=0:=by
  cases hq:(List.range r.cells.length).find? (fun k=>(jk t r k).2 != 0)with
  | some k =>
    exfalso
    unfold fY at h
    rw[if_neg hb,hq]at h
    have:=List.find?_some hq
    simp at this
    exact this h
  | none =>
    intro j hj
    have:=List.find?_eq_none.1 hq j (List.mem_range.2 hj)
    simpa using this
 have ho:∀ j,j<r.outs.length→(gB t r j).2=0:=by
  cases hq:(List.range r.outs.length).find? (fun k=>(gB t r k).2 != 0)with
  | some k =>
    exfalso
    unfold fY at h
    rw[if_neg hb,kF (fun j hj=>by simp[hc j hj])]at h
    dsimp only at h
    rw[hq]at h
    have:=List.find?_some hq
    simp at this
    exact this h
  | none =>
    intro j hj
    have:=List.find?_eq_none.1 hq j (List.mem_range.2 hj)
    simpa using this
 exact⟨h1,h2,hc,ho,Ey h1 h2 hc ho⟩
theorem tA{α : Type}[Inhabited α](f:Nat→ α){n k:Nat}(hk:k<n): ((List.range n).map f).getD k default=f k:=by
 rw[List.getD_eq_getElem?_getD,List.getElem?_map,List.getElem?_range hk];rfl
theorem Ya{w:Nat}{l:gY}(h:(rq w l).2.2=0): (∀ j,j<l.cells.length→(fq l j).2=0)∧(∀ j,j<l.outs.length→(iy l j).2=0):=by
 have hc:∀ j,j<l.cells.length→(fq l j).2=0:=by
  cases hq:(List.range l.cells.length).find? (fun k=>(fq l k).2 != 0)with
  | some k =>
    exfalso
    unfold rq at h
    rw[hq]at h
    have:=List.find?_some hq
    simp at this
    exact this h
  | none =>
    intro j hj
    have:=List.find?_eq_none.1 hq j (List.mem_range.2 hj)
    simpa using this
 refine⟨hc,?_⟩
 cases hq:(List.range l.outs.length).find? (fun k=>(iy l k).2 != 0)with
 | some k =>
   exfalso
   unfold rq at h
   rw[kF (fun j hj=>by simp[hc j hj])]at h
   dsimp only at h
   rw[hq]at h
   have:=List.find?_some hq
   simp at this
   exact this h
 | none =>
   intro j hj
   have:=List.find?_eq_none.1 hq j (List.mem_range.2 hj)
   simpa using this
theorem WC{t:Table}{r:cK}(h:(fY t r).2.2=0){w:Nat}(hw:(rq w (fY t r).1).2.2=0): fY t (rq w (fY t r).1).1=fY t r:=by
 obtain⟨h1,h2,hc,ho,he⟩:=EI h
 obtain⟨tc,to⟩:=Ya hw
 rw[H6]
 rw[he]at tc to ⊢
 dsimp only at tc to ⊢
 rw[tu]at tc ⊢
 rw[Ex]at to ⊢
 obtain⟨l,hl⟩:∃ l:gY,(⟨iw t r r.cells.length,lI t r r.outs.length⟩:gY)=l:=⟨_,rfl⟩
 have c_:∀ j,j<r.cells.length→l.cells.getD j default=(jk t r j).1:=fun j hj=>by rw[← hl];exact tA _ hj
 have RJ:∀ j,j<r.outs.length→l.outs.getD j default=(gB t r j).1:=fun j hj=>by rw[← hl];exact tA _ hj
 have hlc:l.cells=iw t r r.cells.length:=by rw[← hl]
 have hlo:l.outs=lI t r r.outs.length:=by rw[← hl]
 rw[hl]at tc to ⊢
 have ask:∀ j,j<r.cells.length→jk t ⟨bj l r.cells.length,iX l r.outs.length⟩ j=((jk t r j).1,0):=fun j hj=>by
  have h0:=tc j hj
  have e1:(bj l r.cells.length).getD j default=(fq l j).1:=tA _ hj
  have e2:fq l j=kz (jk t r j).1:=by unfold fq;rw[c_ j hj]
  have e3:=hc j hj
  rw[e2]at h0 e1
  have e4:(jk t r j).1=(cZ (r.cells.getD j default)).1:=rfl
  have e5:=(WB _ h0 (by rw[e4];exact My _)).1
  show KC t j ((bj l r.cells.length).getD j default)=_
  rw[e1]
  unfold KC
  rw[e5]
  dsimp only
  rw[if_pos rfl]
  have e6:(jk t r j).2=if(cZ (r.cells.getD j default)).2.2=0 then oP t.ins (t.ins.getD j default).kind (cZ (r.cells.getD j default)).1 else(cZ (r.cells.getD j default)).2.2:=rfl
  rw[e6]at e3
  split at e3
  ·rw[e4,e3]
  ·rename_i hh;exact absurd e3 hh
 have tel:∀ j,j<r.outs.length→gB t ⟨bj l r.cells.length,iX l r.outs.length⟩ j=((gB t r j).1,0):=fun j hj=>by
  have h0:=to j hj
  have e1:(iX l r.outs.length).getD j default=(iy l j).1:=tA _ hj
  have e2:iy l j=jQ (gB t r j).1:=by unfold iy;rw[RJ j hj]
  have e3:=ho j hj
  rw[e2]at h0 e1
  have e4:(gB t r j).1=(cz (r.outs.getD j default)).1:=rfl
  have e5:=(Wy _ h0 (by rw[e4];exact(xn _).1)).2.1
  show BI t j ((iX l r.outs.length).getD j default)=_
  rw[e1]
  have e6:gB t r j=BI t j (r.outs.getD j default):=rfl
  rw[e6]at e3 e5 ⊢
  unfold BI at e3 e5 ⊢
  dsimp only at e3 e5 ⊢
  rw[e5]
  dsimp only
  rw[if_neg (by simp)]
  split at e3
  ·rename_i hh;exact absurd e3 hh
  ·rw[e3]
 have hls:=Ey (t:=t) (r:=⟨bj l r.cells.length,iX l r.outs.length⟩) (by dsimp only;rw[nQ];exact h1) (by dsimp only;rw[qf];exact h2) (by intro j hj;dsimp only at hj;rw[nQ]at hj;rw[ask j hj]) (by intro j hj;dsimp only at hj;rw[qf]at hj;rw[tel j hj])
 rw[hls]
 dsimp only
 rw[nQ,qf]
 have q1:iw t ⟨bj l r.cells.length,iX l r.outs.length⟩ r.cells.length=l.cells:=by
  rw[hlc];unfold iw
  exact List.map_congr_left (fun j hj=>by rw[ask j (List.mem_range.1 hj)])
 have q2:lI t ⟨bj l r.cells.length,iX l r.outs.length⟩ r.outs.length=l.outs:=by
  rw[hlo];unfold lI
  exact List.map_congr_left (fun j hj=>by rw[tel j (List.mem_range.1 hj)])
 rw[q1,q2]
theorem Cm{t:Table}(h:(bZ t).2.2.2=0): (cI t).2.2.2=0∧(∀ j,j<(cI t).1.lines.length→(iT t j).2.2=0)∧bZ t=({ t with rules:=gV t (cI t).1.lines.length },0,0,0):=by
 by_cases he:(cI t).2.2.2=0
 ·have hr : ∀ j, j < (cI t).1.lines.length → (iT t j).2.2 = 0 := by
   cases hq:(List.range (cI t).1.lines.length).find? (fun k=>(iT t k).2.2 != 0)with
   | some k =>
     exfalso
     unfold bZ at h
     rw[if_neg (by omega),hq]at h
     have:=List.find?_some hq
     simp at this
     exact this h
   | none =>
     intro j hj
     have:=List.find?_eq_none.1 hq j (List.mem_range.2 hj)
     simpa using this
  exact⟨he,hr,BL he hr⟩
 ·rw[rV he]at h;exact absurd h he
theorem T4{t:Table}(h:(bZ t).2.2.2=0): cI (bZ t).1=(⟨(bZ t).1,(cI t).1.lines⟩,0,0,0)∧bZ (bZ t).1=((bZ t).1,0,0,0):=by
 obtain⟨h0,hr,hc⟩:=Cm h
 obtain⟨hf,hl,hm⟩:=qP h0
 have hlen:(cI t).1.lines.length=t.rules.length:=by rw[hm];exact qd _ _
 have AJ:∀ j,j<t.rules.length→sD t j=(gj t j).1:=fun j hj=>by unfold sD;rw[hm];exact tA _ hj
 rw[hc,hlen]
 rw[hlen]at hr
 dsimp only
 have MD:∀ j,j<t.rules.length→(gV t t.rules.length).getD j default=(iT t j).1:=fun j hj=>tA _ hj
 have aak:∀ j,j<t.rules.length→gj { t with rules:=gV t t.rules.length } j=gj t j:=fun j hj=>by
  show fY t ((gV t t.rules.length).getD j default)=fY t (t.rules.getD j default)
  rw[MD j hj]
  have h1:=hr j hj
  unfold iT at h1 ⊢
  rw[AJ j hj]at h1 ⊢
  exact WC (hl j hj) h1
 have hfr:e7 { t with rules:=gV t t.rules.length }=e7 t:=by
  unfold e7
  dsimp only
  rw[jF]
  rfl
 have hmk:cI { t with rules:=gV t t.rules.length }=(⟨{ t with rules:=gV t t.rules.length },(cI t).1.lines⟩,0,0,0):=by
  rw[Ez (by rw[hfr];exact hf) (fun j hj=>by dsimp only at hj;rw[jF]at hj;rw[aak j hj];exact hl j hj)]
  dsimp only
  rw[jF,hm]
  dsimp only
  have:jv { t with rules:=gV t t.rules.length } t.rules.length=jv t t.rules.length:=by
   unfold jv
   exact List.map_congr_left (fun j hj=>by rw[aak j (List.mem_range.1 hj)])
  rw[this]
 refine⟨hmk,?_⟩
 have hrow:∀ j,iT { t with rules:=gV t t.rules.length } j=iT t j:=fun j=>by
  unfold iT sD
  rw[hmk]
 have hz:(cI { t with rules:=gV t t.rules.length }).2.2.2=0:=by rw[hmk]
 rw[BL hz (fun j hj=>by rw[hmk]at hj;dsimp only at hj;rw[hlen]at hj;rw[hrow];exact hr j hj)]
 have:gV { t with rules:=gV t t.rules.length } (cI { t with rules:=gV t t.rules.length }).1.lines.length=gV t t.rules.length:=by
  rw[hmk]
  dsimp only
  rw[hlen]
  exact List.map_congr_left (fun j _=>congrArg Prod.fst (hrow j))
 rw[this]
def o_(n:Int): Nat:=if n<0 then(2*(-1-n)+1).toNat else(2*n).toNat
def wu(c:Nat): Int:=if c % 2=1 then -1-(c / 2:Nat)else (c / 2:Nat)
def sQ: Nat→Nat→aH
 | 0,c=>[UInt8.ofNat c]
 | f+1,c=>if c<128 then [UInt8.ofNat c]else UInt8.ofNat (128+c % 128)::sQ f (c / 128)
def dw(n:Int): aH:=sQ 9 (o_ n)
def pg(i c:Nat): aH→Int × aH × Int
 | []=>(0,[],3)
 | b :: r => if (0 < i ∧ b.toNat = 0) ∨ (i = 9 ∧ 1 < b.toNat) then (0, [], 4)
   else if b.toNat<128 then(wu (c+b.toNat % 128*128 ^ i),r,0)
   else pg (i+1) (c+b.toNat % 128*128 ^ i) r
def takeN(s:aH): Int × aH × Int:=pg 0 0 s
def bY(s:aH): aH:=dw s.length++s
def eF(s:aH)(most:Int): aH × aH × Int :=
 if(takeN s).2.2≠0 then([],[],(takeN s).2.2)else if(takeN s).1<0 then([],[],4)else if(takeN s).1>most then([],[],5)else if(takeN s).1>(takeN s).2.1.length then([],[],3)
 else((takeN s).2.1.take (takeN s).1.toNat,(takeN s).2.1.drop (takeN s).1.toNat,0)
theorem WD(n:Int): wu (o_ n)=n:=by
 unfold wu o_;split<;>split<;>omega
theorem KH{n:Int}(h : -9223372036854775808≤n)(h':n≤9223372036854775807): o_ n<18446744073709551616:=by
 unfold o_;split<;>omega
theorem u8(n:Nat)(h:n<256): (UInt8.ofNat n).toNat=n:=by simp[UInt8.toNat_ofNat'];omega
theorem ZH(r:aH): ∀(k i c:Nat),i+k=9→c*128 ^ i<18446744073709551616→(0<i→0<c)→ ∀ d,pg i d (sQ k c++r)=(wu (d+c*128 ^ i),r,0):=by
 intro k
 induction k with
 | zero =>
   intro i c h1 h2 h3 d
   obtain rfl:i=9:=by omega
   have e:(128:Nat) ^ 9=9223372036854775808:=by decide
   rw[e]at h2
   rw[sQ,List.singleton_append,pg,u8 c (by omega),if_neg (by omega),if_pos (by omega),Nat.mod_eq_of_lt (by omega)]
 | succ k ih =>
   intro i c h1 h2 h3 d
   rw[sQ]
   by_cases hc:c<128
   ·rw[if_pos hc,List.singleton_append,pg,u8 c (by omega),if_neg (by omega),if_pos hc,Nat.mod_eq_of_lt hc]
   ·rw[if_neg hc,List.cons_append,pg,u8 _ (by omega),if_neg (by omega),if_neg (by omega)]
    have e2:c / 128*128 ^ (i+1)=128*(c / 128)*128 ^ i:=by
     rw[Nat.pow_succ,Nat.mul_comm (128 ^ i) 128,← Nat.mul_assoc,Nat.mul_comm (c / 128) 128]
    have e:(128+c % 128) % 128=c % 128:=by omega
    rw[ih (i+1) (c / 128) (by omega) (Nat.lt_of_le_of_lt (by rw[e2];exact Nat.mul_le_mul_right _ (by omega)) h2) (by omega),e,e2,Nat.add_assoc,← Nat.add_mul]
    rw[show c % 128+128*(c / 128)=c by omega]
theorem tB{n:Int}(h : -9223372036854775808≤n∧n≤9223372036854775807)(r:aH): takeN (dw n++r)=(n,r,0):=by
 have:=KH h.1 h.2
 unfold takeN dw
 rw[ZH r 9 0 (o_ n) (by omega) (by omega) (by omega) 0]
 simp[WD]
theorem ML{s:aH}{most:Int}(h:s.length≤most)(h':(s.length:Int)≤9223372036854775807)(r:aH): eF (bY s++r) most=(s,r,0):=by
 unfold eF bY
 rw[List.append_assoc,tB ⟨by omega,h'⟩]
 dsimp only
 rw[if_neg (by omega),if_neg (by omega),if_neg (by omega),if_neg (by rw[List.length_append];omega)]
 simp
theorem aa3: ∀(s:aH) (i c:Nat),(pg i c s).2.1.length≤s.length∧((pg i c s).2.2=0→(pg i c s).2.1.length<s.length)∧((pg i c s).2.2≠0→(pg i c s).1=0∧(pg i c s).2.1=[]):=by
 intro s
 induction s with
 | nil=>intro i c;simp[pg]
 | cons b r ih =>
   intro i c
   rw[pg]
   split
   ·simp
   ·split
    ·simp
    ·have:=ih (i+1) (c+b.toNat % 128*128 ^ i)
     simp only[List.length_cons]
     refine⟨by omega,fun h=>?_,this.2.2⟩
     have:=this.2.1 h;omega
theorem ZI{c:Nat}(h:c<18446744073709551616): -9223372036854775808≤wu c∧wu c≤9223372036854775807:=by
 unfold wu;split<;>omega
theorem aa4: ∀(s:aH) (i c:Nat),i≤9→c<128 ^ i→ -9223372036854775808≤(pg i c s).1∧(pg i c s).1≤9223372036854775807:=by
 intro s
 induction s with
 | nil=>intro i c _ _;simp[pg]
 | cons b r ih =>
   intro i c hi hc
   rw[pg]
   split
   ·simp
   ·rename_i h1
    have hb:b.toNat<256:=b.toNat_lt
    split
    ·rename_i h2
     apply ZI
     by_cases h9:i=9
     ·subst h9
      have e:(128:Nat) ^ 9=9223372036854775808:=by decide
      rw[e]at hc ⊢;omega
     ·have e:(128:Nat) ^ (i+1)≤128 ^ 9:=Nat.pow_le_pow_right (by decide) (by omega)
      rw[Nat.pow_succ]at e
      have e2:(128:Nat) ^ 9=9223372036854775808:=by decide
      have:b.toNat % 128*128 ^ i≤127*128 ^ i:=Nat.mul_le_mul_right _ (by omega)
      omega
    ·rename_i h2
     have h9:i≠9:=fun e=>by subst e;omega
     apply ih _ _ (by omega)
     rw[Nat.pow_succ]
     have:b.toNat % 128*128 ^ i≤127*128 ^ i:=Nat.mul_le_mul_right _ (by omega)
     omega
theorem qi(s:aH): -9223372036854775808≤(takeN s).1∧(takeN s).1≤9223372036854775807:=aa4 s 0 0 (by omega) (by decide)
theorem gC(s:aH): (takeN s).2.1.length≤s.length∧((takeN s).2.2=0→(takeN s).2.1.length<s.length)∧((takeN s).2.2≠0→(takeN s).1=0∧(takeN s).2.1=[]):=aa3 s 0 0
theorem qj(s:aH)(m:Int): (eF s m).1.length≤s.length∧(eF s m).2.1.length≤s.length∧((eF s m).2.2=0→(eF s m).2.1.length<s.length∧(eF s m).1.length≤m)∧((eF s m).2.2≠0→(eF s m).1=[]∧(eF s m).2.1=[]):=by
 have:=gC s
 unfold eF
 repeat' split
 all_goals first
  |(refine⟨by simp,by simp,fun h=>?_,fun _=>⟨rfl,rfl⟩⟩;dsimp only at h;omega)
  |(dsimp only;rw[List.length_take,List.length_drop];refine⟨by omega,by omega,fun _=>?_,fun h=>absurd rfl h⟩;have:=this.2.1 (by omega);omega)
def ff(v:dy): aH:=dw v.kind++(if v.kind=2 then bY v.s else if v.kind=1∨v.kind=3 then dw v.n else [])
def FN(v:dy)(r:aH): dy × aH × Int:=if bS v then(v,r,0)else (v0,[],4)
def iN(s:aH): dy × aH × Int :=
 if(takeN s).2.2≠0 then(v0,[],(takeN s).2.2)
 else if(takeN s).1=0 then(v0,(takeN s).2.1,0)
 else if(takeN s).1=1∨(takeN s).1=3 then
  if(takeN (takeN s).2.1).2.2≠0 then(v0,[],(takeN (takeN s).2.1).2.2)else FN ⟨(takeN s).1,(takeN (takeN s).2.1).1,[]⟩ (takeN (takeN s).2.1).2.1
 else if(takeN s).1=2 then
  if(eF (takeN s).2.1 40).2.2≠0 then(v0,[],(eF (takeN s).2.1 40).2.2)else FN ⟨2,0,(eF (takeN s).2.1 40).1⟩ (eF (takeN s).2.1 40).2.1
 else(v0,[],4)
def rA(l:List dy): aH:=dw l.length++l.flatMap ff
def gk: Nat→List dy→aH→List dy × aH × Int
 | 0,out,s=>(out,s,0)
 | k+1,out,s=>if(iN s).2.2≠0 then([],[],(iN s).2.2)else gk k (out++[(iN s).1]) (iN s).2.1
def iz(s:aH)(most:Int): List dy × aH × Int :=
 if(takeN s).2.2≠0 then([],[],(takeN s).2.2)else if(takeN s).1<0 then([],[],4)else if(takeN s).1>most then([],[],5)
 else gk (takeN s).1.toNat [] (takeN s).2.1
theorem rW{v:dy}(h:bS v=true): v.kind=0∧v=v0∨v.kind=1∧v.s=[]∨v.kind=2∧v.n=0∧v.s.length≤40∨v.kind=3∧v.s=[]:=by
 obtain⟨k,n,s⟩:=v
 unfold bS at h
 dsimp only at h ⊢
 split at h
 ·left;simp at h;simp[v0, *]
 split at h
 ·right;left;simp at h;simp[*]
 split at h
 ·right;right;left;simp[ij]at h;simp[*]
 split at h
 ·right;right;right;simp at h;simp[*]
 ·cases h
theorem T5{v:dy}(h:bS v=true)(hn : -9223372036854775808≤v.n∧v.n≤9223372036854775807)(r:aH): iN (ff v++r)=(v,r,0):=by
 have hk:=rW h
 have hT:∀ x,takeN (dw v.kind++x)=(v.kind,x,0):=fun x=>tB (by omega) x
 unfold iN ff
 rw[List.append_assoc,hT]
 dsimp only
 rw[if_neg (by simp)]
 rcases hk with⟨hk,hv⟩|⟨hk,hs⟩|⟨hk,h0,hs⟩|⟨hk,hs⟩
 ·rw[if_pos hk,if_neg (by omega),if_neg (by omega),hv];rfl
 ·have e:(if v.kind=2 then bY v.s else if v.kind=1∨v.kind=3 then dw v.n else [])=dw v.n:=by rw[if_neg (by omega),if_pos (by omega)]
  rw[if_neg (by omega),if_pos (by omega),e,tB hn]
  dsimp only
  rw[if_neg (by simp),← hs];unfold FN;rw[if_pos h]
 ·rw[if_neg (by omega),if_neg (by omega),if_pos hk,if_pos hk,ML (by omega) (by omega)]
  dsimp only
  rw[if_neg (by simp)];unfold FN;rw[← hk,← h0,if_pos h]
 ·have e:(if v.kind=2 then bY v.s else if v.kind=1∨v.kind=3 then dw v.n else [])=dw v.n:=by rw[if_neg (by omega),if_pos (by omega)]
  rw[if_neg (by omega),if_pos (by omega),e,tB hn]
  dsimp only
  rw[if_neg (by simp),← hs];unfold FN;rw[if_pos h]
theorem Yb(v:dy)(r:aH)(hv : -9223372036854775808≤v.n∧v.n≤9223372036854775807): (FN v r).2.1.length≤r.length∧bS (FN v r).1=true∧(-9223372036854775808≤(FN v r).1.n∧(FN v r).1.n≤9223372036854775807):=by
 unfold FN
 split
 ·rename_i h;exact⟨by simp,h,hv⟩
 ·exact⟨by simp,by decide,by decide⟩
theorem MN: bS v0=true∧(-9223372036854775808≤v0.n∧v0.n≤9223372036854775807):=by decide
theorem KI(s:aH): (iN s).2.1.length≤s.length∧((iN s).2.2=0→(iN s).2.1.length<s.length)∧bS (iN s).1=true∧(-9223372036854775808≤(iN s).1.n∧(iN s).1.n≤9223372036854775807):=by
 have h1:=gC s
 have h2:=gC (takeN s).2.1
 have h3:=qj (takeN s).2.1 40
 unfold iN
 split
 ·exact⟨by simp,fun h=>absurd h (by assumption),MN⟩
 have h4:=h1.2.1 (by omega)
 split
 ·exact⟨by dsimp only;omega,fun _=>h4,MN⟩
 split
 ·split
  ·exact⟨by simp,fun h=>absurd h (by assumption),MN⟩
  ·have:=Yb ⟨(takeN s).1,(takeN (takeN s).2.1).1,[]⟩ (takeN (takeN s).2.1).2.1 (qi _)
   exact⟨by omega,fun _=>by omega,this.2⟩
 split
 ·split
  ·exact⟨by simp,fun h=>absurd h (by assumption),MN⟩
  ·have:=Yb ⟨2,0,(eF (takeN s).2.1 40).1⟩ (eF (takeN s).2.1 40).2.1 ⟨by simp,by simp⟩
   exact⟨by omega,fun _=>by omega,this.2⟩
 ·exact⟨by simp,fun h=>absurd h (by decide),MN⟩
theorem SG(r:aH): ∀(l out:List dy),(∀ v ∈ l,bS v=true∧(-9223372036854775808≤v.n∧v.n≤9223372036854775807))→gk l.length out (l.flatMap ff++r)=(out++l,r,0):=by
 intro l
 induction l with
 | nil=>intro out _;simp[gk]
 | cons v l ih =>
   intro out h
   have hv:=h v (by simp)
   rw[List.length_cons,gk,List.flatMap_cons,List.append_assoc,T5 hv.1 hv.2]
   dsimp only
   rw[if_neg (by omega),ih _ (fun w hw=>h w (by simp[hw]))];simp
theorem Yc{l:List dy}{most:Int}(h:∀ v ∈ l,bS v=true∧(-9223372036854775808≤v.n∧v.n≤9223372036854775807))(hl:l.length≤most)(JL:l.length≤2 ^ 60)(r:aH): iz (rA l++r) most=(l,r,0):=by
 unfold iz rA
 rw[List.append_assoc,tB ⟨by omega,by omega⟩]
 dsimp only
 rw[if_neg (by omega),if_neg (by omega),if_neg (by omega),Int.toNat_natCast,SG r l [] h];simp
theorem Yd: ∀(k:Nat) (out:List dy) (s:aH),(∀ v ∈ out,bS v=true∧(-9223372036854775808≤v.n∧v.n≤9223372036854775807)) →
 (gk k out s).2.1.length≤s.length∧(∀ v ∈ (gk k out s).1,bS v=true∧(-9223372036854775808≤v.n∧v.n≤9223372036854775807))∧(gk k out s).1.length≤out.length+s.length∧((gk k out s).2.2≠0→(gk k out s).1=[]∧(gk k out s).2.1=[])∧(gk k out s).1.length≤out.length+k:=by
 intro k
 induction k with
 | zero=>intro out s h;exact⟨by simp[gk],h,by simp[gk],fun h=>absurd rfl h,by simp[gk]⟩
 | succ k ih =>
   intro out s h
   have hv:=KI s
   rw[gk]
   split
   ·exact⟨by simp,by simp,by simp,fun _=>⟨rfl,rfl⟩,by simp⟩
   ·rename_i h1
    have h2:=hv.2.1 (by omega)
    have:=ih (out++[(iN s).1]) (iN s).2.1 (fun w hw=>by
     rcases List.mem_append.1 hw with hw|hw
     ·exact h w hw
     ·rw[List.mem_singleton.1 hw];exact hv.2.2)
    rw[List.length_append,List.length_singleton]at this
    exact⟨by omega,this.2.1,by omega,this.2.2.2.1,by omega⟩
theorem SH(s:aH)(most:Int): (iz s most).2.1.length≤s.length∧(∀ v ∈ (iz s most).1,bS v=true∧(-9223372036854775808≤v.n∧v.n≤9223372036854775807))∧(iz s most).1.length≤s.length∧((iz s most).2.2≠0→(iz s most).1=[]∧(iz s most).2.1=[])∧(0≤most→(iz s most).1.length≤most):=by
 have h1:=gC s
 unfold iz
 repeat' split
 ·exact⟨by simp,by simp,by simp,fun _=>⟨rfl,rfl⟩,by simp⟩
 ·exact⟨by simp,by simp,by simp,fun _=>⟨rfl,rfl⟩,by simp⟩
 ·exact⟨by simp,by simp,by simp,fun _=>⟨rfl,rfl⟩,by simp⟩
 ·have:=Yd (takeN s).1.toNat [] (takeN s).2.1 (by simp)
  rw[List.length_nil]at this
  exact⟨by omega,this.2.1,by omega,this.2.2.2.1,fun _=>by omega⟩
def mC(n:Int): Prop:= -9223372036854775808≤n∧n≤9223372036854775807
def SI(l:List dy): Prop:=l.length≤2 ^ 30∧ ∀ v ∈ l,mC v.n∧v.s.length≤2 ^ 30
def kC(o:Bool)(c:bV): aH:=bY c.name++dw c.kind++(if o then rA c.order else [])
def iY(o:Bool)(l:List bV): aH:=dw l.length++l.flatMap (kC o)
def eX(r:cK): aH:=r.cells.flatMap bY++r.outs.flatMap bY
def qQ(t:Table): aH:=bY t.name++dw t.bl++dw t.agg++iY false t.ins++iY true t.outs++dw t.rules.length++t.rules.flatMap eX
def cH(t:Table): aH × Int:=if(bZ t).2.2.2≠0 then([],(bZ t).2.2.2)else if ik (bZ t).1 t=false then([],4)else if 1400<(qQ t).length then([],5)else (qQ t,0)
def fj(s:aH)(b:Bool): Int × aH × Bool:=((takeN s).1,(takeN s).2.1,b ||(takeN s).2.2 != 0)
def dV(s:aH)(b:Bool): aH × aH × Bool:=((eF s 1400).1,(eF s 1400).2.1,b ||(eF s 1400).2.2 != 0)
def nf(o:Option Int)(s:aH)(b:Bool): List dy × aH × Bool:=match o with
 | none=>([],s,b)
 | some m=>((iz s m).1,(iz s m).2.1,b ||(iz s m).2.2 != 0)
def lK(o:Option Int)(s:aH)(b:Bool): bV × aH × Bool :=
 let t:=dV s b
 let n:=fj t.2.1 t.2.2
 let q:=nf o n.2.1 n.2.2
 (⟨t.1,n.1,q.1⟩,q.2.1,q.2.2)
def iZ(o:Option Int): Nat→List bV→aH→Bool→List bV × aH × Bool
 | 0,out,s,b=>(out,s,b)
 | k+1,out,s,b=>if b then(out,s,b)else iZ o k (out++[(lK o s b).1]) (lK o s b).2.1 (lK o s b).2.2
def dR(o:Option Int)(s:aH)(b:Bool): List bV × aH × Bool:=iZ o (fj s b).1.toNat [] (fj s b).2.1 (fj s b).2.2
def de: Nat→List aH→aH→Bool→List aH × aH × Bool
 | 0,out,s,b=>(out,s,b)
 | k+1,out,s,b=>de k (out++[(dV s b).1]) (dV s b).2.1 (dV s b).2.2
def kD(z:Bool)(w v:Nat)(s:aH)(b:Bool): cK × aH × Bool :=
 let c:=de w [] s b
 let o:=de v [] c.2.1 c.2.2
 (⟨c.1,o.1⟩,o.2.1,o.2.2 ||(z && w+v==0))
def gu(z:Bool)(w v:Nat): Nat→List cK→aH→Bool→List cK × aH × Bool
 | 0,out,s,b=>(out,s,b)
 | k+1,out,s,b=>if b then(out,s,b)else gu z w v k (out++[(kD z w v s b).1]) (kD z w v s b).2.1 (kD z w v s b).2.2
def Cn(z:Bool)(n:Int): Nat:=if z then n.toNat else(min n 25).toNat
def KJ(z:Bool): Int:=if z then 1400 else 8
def fS(z:Bool)(s:aH): Table × aH × Bool :=
 let a:=dV s false
 let p:=fj a.2.1 a.2.2
 let g:=fj p.2.1 p.2.2
 let i:=dR none g.2.1 g.2.2
 let o:=dR (some (KJ z)) i.2.1 i.2.2
 let n:=fj o.2.1 o.2.2
 let r:=gu z i.1.length o.1.length (Cn z n.1) [] n.2.1 n.2.2
 (⟨a.1,i.1,o.1,p.1,g.1,r.1⟩,r.2.1,r.2.2)
def dI(z:Bool)(s:aH): Table × Int :=
 if 1400<s.length then(fJ,5)else if(fS z s).2.2=true∨(z=true∧(fS z s).2.1≠[])∨cH (fS z s).1≠(s,0)then (fJ,4)else ((fS z s).1,0)
def II(o:Bool)(c:bV): Prop:=c.name.length≤1400∧mC c.kind∧(o=false→c.order=[])∧c.order.length≤8∧ ∀ v ∈ c.order,bS v=true∧mC v.n
def WE(t:Table): Prop:=t.name.length≤1400∧mC t.bl∧mC t.agg∧(t.ins.length≤6∧ ∀ c ∈ t.ins,II false c)∧(0<t.outs.length∧t.outs.length≤6∧ ∀ c ∈ t.outs,II true c)∧t.rules.length≤24 ∧
 ∀ r ∈ t.rules,r.cells.length=t.ins.length∧r.outs.length=t.outs.length∧(∀ s ∈ r.cells,s.length≤1400)∧ ∀ s ∈ r.outs,s.length≤1400
theorem AN{n:Int}(h:mC n)(r:aH): fj (dw n++r) false=(n,r,false):=by unfold fj;rw[tB h];rfl
theorem EJ{s:aH}(h:s.length≤1400)(r:aH): dV (bY s++r) false=(s,r,false):=by unfold dV;rw[ML (by omega) (by omega)];rfl
theorem ZJ{o:Option Int}{c:bV}(h:II o.isSome c)(ho:∀ m,o=some m→8≤m)(r:aH): lK o (kC o.isSome c++r) false=(c,r,false):=by
 obtain⟨h1,h2,h3,h4,h5⟩:=h
 unfold lK kC
 rw[List.append_assoc,List.append_assoc,EJ h1]
 dsimp only
 rw[AN h2]
 dsimp only
 cases o with
 | none =>
   have:=h3 rfl
   obtain⟨a,b,l⟩:=c
   dsimp only at this
   subst this;rfl
 | some m =>
   have:=ho m rfl
   simp only[Option.isSome_some,if_true,nf]
   rw[Yc h5 (by omega) (by omega)];rfl
theorem WG{o:Option Int}(ho:∀ m,o=some m→8≤m)(r:aH): ∀(l out:List bV),(∀ c ∈ l,II o.isSome c)→iZ o l.length out (l.flatMap (kC o.isSome)++r) false=(out++l,r,false):=by
 intro l
 induction l with
 | nil=>intro out _;simp[iZ]
 | cons c l ih =>
   intro out h
   rw[List.length_cons,iZ,List.flatMap_cons,List.append_assoc,ZJ (h c (by simp)) ho,if_neg (by simp),ih _ (fun w hw=>h w (by simp[hw]))];simp
theorem FO{o:Option Int}(ho:∀ m,o=some m→8≤m){l:List bV}(hl:l.length≤6)(h:∀ c ∈ l,II o.isSome c)(r:aH): dR o (iY o.isSome l++r) false=(l,r,false):=by
 unfold dR iY
 rw[List.append_assoc,AN ⟨by omega,by omega⟩]
 dsimp only
 rw[Int.toNat_natCast,WG ho r l [] h];simp
theorem Ic(r:aH): ∀(l out:List aH),(∀ s ∈ l,s.length≤1400)→de l.length out (l.flatMap bY++r) false=(out++l,r,false):=by
 intro l
 induction l with
 | nil=>intro out _;simp[de]
 | cons c l ih =>
   intro out h
   rw[List.length_cons,de,List.flatMap_cons,List.append_assoc,EJ (h c (by simp)),ih _ (fun w hw=>h w (by simp[hw]))];simp
theorem SJ{z:Bool}{w v:Nat}(hv:0<v)(r:aH): ∀(l out:List cK),(∀ x ∈ l,x.cells.length=w∧x.outs.length=v∧(∀ s ∈ x.cells,s.length≤1400)∧ ∀ s ∈ x.outs,s.length≤1400) →
 gu z w v l.length out (l.flatMap eX++r) false=(out++l,r,false):=by
 intro l
 induction l with
 | nil=>intro out _;simp[gu]
 | cons c l ih =>
   intro out h
   have hc:=h c (by simp)
   have e:kD z w v (eX c++(l.flatMap eX++r)) false=(c,l.flatMap eX++r,false):=by
    unfold kD eX
    rw[List.append_assoc,← hc.1,← hc.2.1,Ic _ _ _ hc.2.2.1]
    dsimp only
    rw[Ic _ _ _ hc.2.2.2]
    have:(c.cells.length+c.outs.length==0)=false:=by rw[beq_eq_false_iff_ne];omega
    simp[this]
   rw[List.length_cons,gu,List.flatMap_cons,List.append_assoc,e,if_neg (by simp),ih _ (fun w hw=>h w (by simp[hw]))];simp
theorem T6{t:Table}(h:WE t)(z:Bool): fS z (qQ t)=(t,[],false):=by
 obtain⟨h1,h2,h3,⟨h4,h5⟩,⟨h6,h7,h8⟩,h9,h10⟩:=h
 unfold fS qQ
 simp only[List.append_assoc]
 rw[EJ h1]
 dsimp only
 rw[AN h2]
 dsimp only
 rw[AN h3]
 dsimp only
 have e1:=FO (o:=none) (fun m hm=>by cases hm) h4 h5
 have e2:=FO (o:=some (KJ z)) (fun m hm=>by cases hm;unfold KJ;split<;>omega) h7 h8
 simp only[Option.isSome_none,Option.isSome_some]at e1 e2
 rw[e1]
 dsimp only
 rw[e2]
 dsimp only
 rw[AN ⟨by omega,by omega⟩]
 dsimp only
 have e3:=SJ (z:=z) h6 [] t.rules [] h10
 have e4:Cn z (t.rules.length:Int)=t.rules.length:=by unfold Cn;split<;>omega
 rw[List.append_nil]at e3
 rw[e4,e3];simp
theorem KL(o:Option Int)(s:aH)(b:Bool): (lK o s b).2.1.length≤s.length∧((lK o s b).2.2=false→(lK o s b).2.1.length<s.length):=by
 have h1:=qj s 1400
 have h2:=gC (eF s 1400).2.1
 cases o with
 | none =>
   unfold lK dV fj nf
   dsimp only
   refine⟨by omega,fun h=>?_⟩
   simp only[Bool.or_eq_false_iff,bne_eq_false_iff_eq]at h
   have:=h1.2.2.1 h.1.2
   omega
 | some m =>
   have h3:=SH (takeN (eF s 1400).2.1).2.1 m
   unfold lK dV fj nf
   dsimp only
   refine⟨by omega,fun h=>?_⟩
   simp only[Bool.or_eq_false_iff,bne_eq_false_iff_eq]at h
   have:=h1.2.2.1 h.1.1.2
   omega
def Ie(n:Nat)(c:bV): Prop:=c.name.length≤n∧c.order.length≤n∧mC c.kind∧ ∀ v ∈ c.order,bS v=true∧mC v.n
theorem aa5(o:Option Int)(s:aH)(b:Bool){n:Nat}(hn:s.length≤n): Ie n (lK o s b).1:=by
 have h1:=qj s 1400
 have h2:=gC (eF s 1400).2.1
 have h4:=qi (eF s 1400).2.1
 cases o with
 | none=>exact⟨by unfold lK dV;dsimp only;omega,by simp[lK,nf],h4,fun v hv=>by simp[lK,nf]at hv⟩
 | some m =>
   have h3:=SH (takeN (eF s 1400).2.1).2.1 m
   exact⟨by unfold lK dV;dsimp only;omega,by unfold lK nf fj dV;dsimp only;omega,h4,h3.2.1⟩
theorem ZK(o:Option Int): ∀(k:Nat) (out:List bV) (s:aH) (b:Bool) (n:Nat),s.length≤n→(∀ c ∈ out,Ie n c) →
 (iZ o k out s b).2.1.length≤s.length∧(iZ o k out s b).1.length≤out.length+s.length+1∧ ∀ c ∈ (iZ o k out s b).1,Ie n c:=by
 intro k
 induction k with
 | zero=>intro out s b n hn h;exact⟨by simp[iZ],by simp[iZ];omega,h⟩
 | succ k ih =>
   intro out s b n hn h
   rw[iZ]
   have h1:=KL o s b
   have h2:=aa5 o s b hn
   have h3:∀ c ∈ out++[(lK o s b).1],Ie n c:=fun w hw=>by
    rcases List.mem_append.1 hw with hw|hw
    ·exact h w hw
    ·rw[List.mem_singleton.1 hw];exact h2
   split
   ·exact⟨by simp,by simp;omega,h⟩
   ·have h4:=ih _ (lK o s b).2.1 (lK o s b).2.2 n (by omega) h3
    refine⟨by omega,?_,h4.2.2⟩
    cases hb:(lK o s b).2.2 with
    | true =>
      cases k with
      | zero=>simp[iZ]
      | succ k=>simp[iZ]
    | false =>
      rw[hb]at h4
      have:=h1.2 hb
      have:=h4.2.1
      simp only[List.length_append,List.length_singleton]at this
      omega
theorem oF(o:Option Int)(s:aH)(b:Bool){n:Nat}(hn:s.length≤n): (dR o s b).2.1.length≤s.length∧(dR o s b).1.length≤n+1∧ ∀ c ∈ (dR o s b).1,Ie n c:=by
 have h2:=gC s
 have:=ZK o (fj s b).1.toNat [] (fj s b).2.1 (fj s b).2.2 n (by unfold fj;dsimp only;omega) (by simp)
 have e:(fj s b).2.1=(takeN s).2.1:=rfl
 rw[List.length_nil]at this
 unfold dR
 rw[e]at this ⊢
 exact⟨by omega,by omega,this.2.2⟩
theorem MO: ∀(k:Nat) (out:List aH) (s:aH),(de k out s true).2.2=true:=by
 intro k
 induction k with
 | zero=>intros;rfl
 | succ k ih=>intro out s;rw[de];exact ih _ _
theorem xq: ∀(k:Nat) (out:List aH) (s:aH) (b:Bool) (n:Nat),s.length≤n→(∀ c ∈ out,c.length≤n) →
 (de k out s b).2.1.length≤s.length∧(de k out s b).1.length=out.length+k∧(∀ c ∈ (de k out s b).1,c.length≤n)∧(0<k→(de k out s b).2.2=false→(de k out s b).2.1.length<s.length):=by
 intro k
 induction k with
 | zero=>intro out s b n hn h;exact⟨by simp[de],by simp[de],h,fun h=>absurd h (by omega)⟩
 | succ k ih =>
   intro out s b n hn h
   rw[de]
   have h1:=qj s 1400
   have e1:(dV s b).1=(eF s 1400).1:=rfl
   have e2:(dV s b).2.1=(eF s 1400).2.1:=rfl
   have h3:∀ c ∈ out++[(dV s b).1],c.length≤n:=fun w hw=>by
    rcases List.mem_append.1 hw with hw|hw
    ·exact h w hw
    ·rw[List.mem_singleton.1 hw,e1];omega
   have h4:=ih _ (dV s b).2.1 (dV s b).2.2 n (by rw[e2];omega) h3
   rw[List.length_append,List.length_singleton,e2]at h4
   rw[e2]
   refine⟨by omega,by omega,h4.2.2.1,fun _ hb=>?_⟩
   have hb2:(dV s b).2.2=false:=by
    cases hq:(dV s b).2.2 with
    | false=>rfl
    | true=>rw[hq,MO]at hb;cases hb
   unfold dV at hb2
   simp only[Bool.or_eq_false_iff,bne_eq_false_iff_eq]at hb2
   have:=(h1.2.2.1 hb2.2).1
   omega
def okR(n w v:Nat)(r:cK): Prop:=r.cells.length=w∧r.outs.length=v∧(∀ s ∈ r.cells,s.length≤n)∧ ∀ s ∈ r.outs,s.length≤n
theorem KM(z:Bool)(w v:Nat)(s:aH)(b:Bool){n:Nat}(hn:s.length≤n): okR n w v (kD z w v s b).1∧(kD z w v s b).2.1.length≤s.length∧(z=true→(kD z w v s b).2.2=false→(kD z w v s b).2.1.length<s.length):=by
 have h1:=xq w [] s b n hn (by simp)
 have h2:=xq v [] (de w [] s b).2.1 (de w [] s b).2.2 n (by omega) (by simp)
 rw[List.length_nil]at h1 h2
 refine⟨⟨by unfold kD;dsimp only;omega,by unfold kD;dsimp only;omega,h1.2.2.1,h2.2.2.1⟩,by unfold kD;dsimp only;omega,fun hz hb=>?_⟩
 unfold kD at hb ⊢
 dsimp only at hb ⊢
 simp only[Bool.or_eq_false_iff,hz,Bool.true_and,beq_eq_false_iff_ne]at hb
 by_cases hv:0<v
 ·have:=h2.2.2.2 hv hb.1;omega
 ·have hw:0<w:=by omega
  have hb1:(de w [] s b).2.2=false:=by
   cases hq:(de w [] s b).2.2 with
   | false=>rfl
   | true=>rw[hq,MO]at hb;cases hb.1
  have:=h1.2.2.2 hw hb1;omega
theorem Ye(z:Bool)(w v:Nat): ∀(k:Nat) (out:List cK) (s:aH) (b:Bool) (n:Nat),s.length≤n→(∀ r ∈ out,okR n w v r) →
 (gu z w v k out s b).1.length≤out.length+(if z then s.length+1 else k)∧(∀ r ∈ (gu z w v k out s b).1,okR n w v r):=by
 intro k
 induction k with
 | zero=>intro out s b n hn h;exact⟨by simp[gu],h⟩
 | succ k ih =>
   intro out s b n hn h
   rw[gu]
   have h1:=KM z w v s b hn
   have h3:∀ c ∈ out++[(kD z w v s b).1],okR n w v c:=fun w hw=>by
    rcases List.mem_append.1 hw with hw|hw
    ·exact h _ hw
    ·rw[List.mem_singleton.1 hw];exact h1.1
   split
   ·exact⟨by simp,h⟩
   ·have h4:=ih _ (kD z w v s b).2.1 (kD z w v s b).2.2 n (by omega) h3
    refine⟨?_,h4.2⟩
    rw[List.length_append,List.length_singleton]at h4
    cases z with
    | false=>have:=h4.1;simp at this ⊢;omega
    | true =>
      simp only[if_true]at h4 ⊢
      cases hb:(kD true w v s b).2.2 with
      | true =>
        cases k with
        | zero=>simp[gu]
        | succ k=>simp[gu]
      | false =>
        rw[hb]at h4
        have:=h1.2.2 rfl hb
        have:=h4.1
        omega
theorem jm(s:aH)(b:Bool): mC (fj s b).1∧(fj s b).2.1.length≤s.length:=⟨qi s,(gC s).1⟩
theorem nv(s:aH)(b:Bool): (dV s b).1.length≤s.length∧(dV s b).2.1.length≤s.length:=⟨(qj s 1400).1,(qj s 1400).2.1⟩
theorem U6{c:bV}(hc:Ie 1400 c): qO c:=by
 refine⟨by have:=hc.1;omega,by have:=hc.2.1;omega,fun v hv=>⟨(hc.2.2.2 v hv).2,?_⟩⟩
 rcases rW (hc.2.2.2 v hv).1 with⟨_,h⟩|⟨_,h⟩|⟨_,_,h⟩|⟨_,h⟩
 ·rw[h];decide
 ·rw[h];decide
 ·omega
 ·rw[h];decide
theorem AO(z:Bool){s:aH}(hs:s.length≤1400): gU (fS z s).1∧mC (fS z s).1.bl∧mC (fS z s).1.agg∧(∀ c ∈ (fS z s).1.ins,Ie 1400 c)∧ ∀ c ∈ (fS z s).1.outs,Ie 1400 c:=by
 unfold fS
 dsimp only
 have h1:=nv s false
 generalize dV s false=a at *
 have h2:=jm a.2.1 a.2.2
 generalize fj a.2.1 a.2.2=p at *
 have h3:=jm p.2.1 p.2.2
 generalize fj p.2.1 p.2.2=g at *
 have h4:=oF none g.2.1 g.2.2 (n:=1400) (by omega)
 generalize dR none g.2.1 g.2.2=i at *
 have h5:=oF (some (KJ z)) i.2.1 i.2.2 (n:=1400) (by omega)
 generalize dR (some (KJ z)) i.2.1 i.2.2=o at *
 have h6:=jm o.2.1 o.2.2
 generalize fj o.2.1 o.2.2=n at *
 have h7:=Ye z i.1.length o.1.length (Cn z n.1) [] n.2.1 n.2.2 1400 (by omega) (by simp)
 generalize gu z i.1.length o.1.length (Cn z n.1) [] n.2.1 n.2.2=r at *
 have h8:r.1.length≤1402:=by
  have:=h7.1
  rw[List.length_nil]at this
  cases z with
  | true=>simp only[if_true]at this;omega
  | false=>simp only[Bool.false_eq_true,if_false,Cn]at this;omega
 refine⟨⟨by dsimp only;omega,⟨by dsimp only;omega,fun c hm=>U6 (h4.2.2 c hm)⟩,⟨by dsimp only;omega,fun c hm=>U6 (h5.2.2 c hm)⟩,by dsimp only;omega,fun x hx=>?_⟩,h2.1,h3.1,h4.2.2,h5.2.2⟩
 have hr:=h7.2 x hx
 exact⟨⟨by have:=hr.1;omega,fun s hs=>by have:=hr.2.2.1 s hs;omega⟩,by have:=hr.2.1;omega,fun s hs=>by have:=hr.2.2.2 s hs;omega⟩
theorem T7{z:Bool}{s:aH}{t:Table}(h:WE t)(hb:cH t=(s,0))(hs:s=qQ t)(hl:s.length≤1400): dI z s=(t,0):=by
 unfold dI
 rw[if_neg (by omega)]
 have:=T6 h z
 rw[← hs]at this
 rw[this]
 dsimp only
 rw[if_neg (by simp[hb])]
theorem wL{t:Table}{s:aH}(h:cH t=(s,0)): (bZ t).2.2.2=0∧ik (bZ t).1 t=true∧s=qQ t∧s.length≤1400:=by
 unfold cH at h
 split at h
 ·rename_i h1;injection h with _ h2;exact absurd h2 h1
 split at h
 ·injection h with _ h2;cases h2
 split at h
 ·injection h with _ h2;cases h2
 ·rename_i h1 h2 h3
  injection h with h4 _
  exact⟨by omega,by simpa using h2,h4.symm,by rw[← h4];omega⟩
theorem qo(z:Bool)(s:aH): (1400<s.length∧dI z s=(fJ,5))∨s.length≤1400∧(dI z s=(fJ,4)∨ ∃ t,dI z s=(t,0)∧cH t=(s,0)∧t=(fS z s).1):=by
 unfold dI
 split
 ·left;exact⟨by omega,rfl⟩
 ·right;refine⟨by omega,?_⟩
  split
  ·left;rfl
  ·rename_i h;right;exact⟨_,rfl,by simpa using (not_or.1 (not_or.1 h).2).2,rfl⟩
theorem Og{α : Type}{f : α→aH}{l:List α}{x : α}(h:x ∈ l): (f x).length≤(l.flatMap f).length:=by
 induction l with
 | nil=>cases h
 | cons y l ih =>
   rw[List.flatMap_cons,List.length_append]
   rcases List.mem_cons.1 h with rfl|h
   ·omega
   ·have:=ih h;omega
theorem BM{l:List bV}(h:gi l=0): l.length≤6∧ ∀ c ∈ l,eK c.name=true∧1≤c.kind∧c.kind≤3:=by
 have h6:l.length≤6:=by
  unfold gi at h
  split at h
  ·omega
  ·omega
 refine⟨h6,fun c hc=>?_⟩
 obtain⟨i,hi,rfl⟩:=List.getElem_of_mem hc
 have e:l[i]=l.getD i default:=by rw[List.getD_eq_getElem?_getD,List.getElem?_eq_getElem hi];rfl
 rw[e]
 refine⟨?_,Mx h hi⟩
 unfold gi at h
 rw[if_neg (by omega)]at h
 split at h
 ·rename_i j hj
  have:=List.find?_some hj
  simp[h]at this
 ·rename_i hn
  have:=List.find?_eq_none.1 hn i (by simpa using hi)
  have h0:sM l i=0:=by simpa using this
  unfold sM at h0
  split at h0
  ·omega
  ·rename_i hh
   have:=not_or.1 hh
   simpa using this.1
theorem EK{s:aH}(h:eK s=true): s.length≤16:=by
 simp only[eK,Bool.and_eq_true,decide_eq_true_eq]at h
 exact h.1.2
theorem EL{l:List bV}{b:Bool}(h:g_ l b=0): gi l=0∧0<l.length∧ ∀ c ∈ l,fQ c b=true:=by
 obtain⟨h1,h2⟩:=HV h
 refine⟨h1,h2,fun c hc=>?_⟩
 unfold g_ at h
 rw[if_neg (by omega)]at h
 split at h
 ·omega
 ·rename_i hh
  have:=(not_or.1 hh).2
  rw[List.any_eq_true]at this
  cases hq:fQ c b with
  | true=>rfl
  | false=>exact absurd ⟨c,hc,by rw[hq];rfl⟩ this
theorem MP{c:bV}{b:Bool}(h:fQ c b=true)(hk:qO c): (b=false→c.order=[])∧c.order.length≤8∧ ∀ v ∈ c.order,bS v=true∧mC v.n:=by
 unfold fQ at h
 cases b with
 | false =>
   rw[if_neg (by simp),decide_eq_true_eq]at h
   have:=List.length_eq_zero_iff.1 h
   rw[this];exact⟨fun _=>rfl,by simp,by simp⟩
 | true =>
   rw[if_pos rfl,Bool.and_eq_true,decide_eq_true_eq,List.all_eq_true]at h
   refine⟨fun h=>(by cases h),h.2.2,fun v hv=>?_⟩
   refine⟨?_,(hk.2.2 v hv).1⟩
   obtain⟨i,hi,rfl⟩:=List.getElem_of_mem hv
   have:=h.1 i (by simpa using hi)
   simp only[sO,Bool.and_eq_true]at this
   have e:c.order[i]=c.order.getD i default:=by rw[List.getD_eq_getElem?_getD,List.getElem?_eq_getElem hi];rfl
   rw[e];exact this.1.1
theorem JQ{t:Table}(h:jj t=true): 1≤t.bl∧t.bl≤6∧0≤t.agg∧t.agg≤4:=by
 unfold jj at h
 split at h
 ·cases h
 split at h
 ·omega
 split at h
 ·cases h
 ·omega
theorem aa6{t:Table}{s:aH}(ok:gU t)(h:cH t=(s,0)): WE t:=by
 obtain⟨h1,h2,h3,h4⟩:=wL h
 obtain⟨h5,_,_⟩:=Cm h1
 obtain⟨hf,hl,_⟩:=qP h5
 have hn:eK t.name=true:=by
  unfold e7 at hf;split at hf
  ·omega
  ·rename_i hh;simpa using hh
 have hp:g_ t.ins false=0∧g_ t.outs (decide (t.bl=3))=0∧jj t=true∧t.rules.length≤24:=by
  unfold e7 at hf
  rw[hn,if_neg (by simp)]at hf
  split at hf
  ·contradiction
  split at hf
  ·contradiction
  split at hf
  ·cases hf
  split at hf
  ·cases hf
  ·rename_i a b c d;exact⟨by simpa using a,by simpa using b,by simpa using c,by omega⟩
 obtain⟨p1,p2,p3,p4⟩:=hp
 obtain⟨i1,i2,i3⟩:=EL p1
 obtain⟨o1,o2,o3⟩:=EL p2
 have pp:=JQ p3
 have hi:=BM i1
 have ho:=BM o1
 have hc:∀ (b b':Bool) (c:bV),(eK c.name=true∧1≤c.kind∧c.kind≤3)→fQ c b=true→qO c→(b'=false→b=false)→II b' c:=fun b b' c q1 q2 q3 q4=>by
  have w1:=EK q1.1
  have w2:=MP q2 q3
  exact⟨by omega,⟨by omega,by omega⟩,fun e=>w2.1 (q4 e),w2.2⟩
 refine⟨by have:=EK hn;omega,⟨by omega,by omega⟩,⟨by omega,by omega⟩,⟨hi.1,fun c hm=>hc false false c (hi.2 c hm) (i3 c hm) (ok.2.1.2 c hm) (fun _=>rfl)⟩,
  ⟨o2,ho.1,fun c hm=>hc _ true c (ho.2 c hm) (o3 c hm) (ok.2.2.1.2 c hm) (fun h=>(by cases h))⟩,p4,fun r hr=>?_⟩
 obtain⟨j,hj,rfl⟩:=List.getElem_of_mem hr
 have e:t.rules[j]=t.rules.getD j default:=by rw[List.getD_eq_getElem?_getD,List.getElem?_eq_getElem hj];rfl
 have hz:=hl j hj
 unfold gj at hz
 rw[← e]at hz
 obtain⟨z1,z2,_⟩:=EI hz
 have l1:(eX t.rules[j]).length≤(t.rules.flatMap eX).length:=Og hr
 have l2:(t.rules.flatMap eX).length≤1400:=by
  rw[h3]at h4
  unfold qQ at h4
  simp only[List.length_append]at h4
  omega
 have e1:(eX t.rules[j]).length=(t.rules[j].cells.flatMap bY).length+(t.rules[j].outs.flatMap bY).length:=by unfold eX;rw[List.length_append]
 have e2:∀ s,(bY s).length=(dw s.length).length+s.length:=fun s=>by unfold bY;rw[List.length_append]
 refine⟨z1,z2,fun s hs=>?_,fun s hs=>?_⟩
 ·have:=Og (f:=bY) hs
  have:=e2 s
  omega
 ·have:=Og (f:=bY) hs
  have:=e2 s
  omega
theorem wv{z:Bool}{s:aH}{t:Table}(ok:gU t)(h:cH t=(s,0)): dI z s=(t,0):=by
 obtain⟨_,_,h3,h4⟩:=wL h
 exact T7 (aa6 ok h) h h3 h4
theorem ZL(s:aH): dI false s=dI true s:=by
 rcases qo false s with⟨h,e⟩|⟨hl,e|⟨t,e,hb,ht⟩⟩
 ·rcases qo true s with⟨_,e2⟩|⟨h2,_⟩
  ·rw[e,e2]
  ·omega
 ·rcases qo true s with⟨h2,_⟩|⟨_,e2|⟨t,e2,hb,ht⟩⟩
  ·omega
  ·rw[e,e2]
  ·have:=wv (z:=false) (by rw[ht];exact(AO true hl).1) hb
   rw[this,e2]
 ·rw[e];exact(wv (by rw[ht];exact(AO false hl).1) hb).symm
theorem SK(z:Bool){s:aH}(h:(dI z s).2=0): s.length≤1400∧cH (dI z s).1=(s,0)∧gU (dI z s).1:=by
 rcases qo z s with⟨_,e⟩|⟨hl,e|⟨t,e,hb,ht⟩⟩
 ·rw[e]at h;cases h
 ·rw[e]at h;cases h
 ·rw[e];exact⟨hl,hb,by rw[ht];exact(AO z hl).1⟩
theorem Pr(z:Bool){s:aH}(h:(dI z s).2≠0): dI z s=(fJ,4)∨1400<s.length∧dI z s=(fJ,5):=by
 rcases qo z s with⟨hl,e⟩|⟨hl,e|⟨t,e,hb,ht⟩⟩
 ·exact .inr ⟨hl,e⟩
 ·exact .inl e
 ·rw[e]at h;exact absurd rfl h
theorem Dq{α : Type}{p : α→ α→Bool}(hp:∀ x y,p x y=true→x=y): ∀ {l m:List α},fh p l m=true→l=m:=by
 intro l
 induction l with
 | nil => intro m h; cases m with
   | nil=>rfl
   | cons=>simp[fh]at h
 | cons x l ih => intro m h; cases m with
   | nil=>simp[fh]at h
   | cons y m =>
     simp only[fh,Bool.and_eq_true]at h
     rw[hp _ _ h.1,ih h.2]
theorem MQ(a b:bV)(h:fc a b=true): a=b:=by
 obtain⟨a1,a2,a3⟩:=a
 obtain⟨b1,b2,b3⟩:=b
 simp only[fc,Bool.and_eq_true,beq_iff_eq,decide_eq_true_eq]at h
 obtain⟨⟨rfl,rfl⟩,h3⟩:=h
 rw[Dq (fun x y h=>by simpa using h) h3]
theorem T8(a b:cK)(h:hU a b=true): a=b:=by
 obtain⟨a1,a2⟩:=a
 obtain⟨b1,b2⟩:=b
 simp only[hU,Bool.and_eq_true]at h
 rw[Dq (fun x y h=>by simpa using h) h.1,Dq (fun x y h=>by simpa using h) h.2]
theorem WH{a b:Table}(h:ik a b=true): a=b:=by
 obtain⟨a1,a2,a3,a4,a5,a6⟩:=a
 obtain⟨b1,b2,b3,b4,b5,b6⟩:=b
 simp only[ik,Bool.and_eq_true,beq_iff_eq,decide_eq_true_eq]at h
 obtain⟨⟨⟨⟨⟨rfl,rfl⟩,rfl⟩,h4⟩,h5⟩,h6⟩:=h
 rw[Dq MQ h4,Dq MQ h5,Dq T8 h6]
theorem bytes_inj{t u:Table}{s:aH}(ht:gU t)(hu:gU u)(h1:cH t=(s,0))(h2:cH u=(s,0)): t=u:=by
 have e1:=wv (z:=false) ht h1
 have e2:=wv (z:=false) hu h2
 rw[e1]at e2;exact(Prod.mk.inj e2).1
theorem T9{t:Table}(h:(bZ t).2.2.2=0): cH (bZ t).1=([],5)∨cH (bZ t).1=(qQ (bZ t).1,0):=by
 have hc:=(T4 h).2
 unfold cH
 rw[hc]
 dsimp only
 rw[if_neg (by simp),mZ,if_neg (by simp)]
 split
 ·exact .inl rfl
 ·exact .inr rfl
end Go.Proofs.YtmbgnaoilncbnaaGreatDoor
