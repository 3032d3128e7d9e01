/- Part. -/
import Derived.Test.YtcjcnfcedihckaaGreatDoorV36
set_option linter.all false
set_option maxHeartbeats 4000000
namespace Go.Proofs.YtcjcnfcedihckaaGreatDoor
open Go.AM
set_option maxRecDepth 4000
def Sk(y:UInt8): ∀(s cur:aG) (w:Bool),(eE y w cur s).length<=s.length+1/\ ∀ z ∈ eE y w cur s,z.length<=cur.length+s.length:=by
 have ht:∀ s:aG,(iL s).length<=s.length:=fun s=>by
  unfold iL Lib.trimB Lib.trimLeftB Lib.trimRightB;have a:=(List.dropWhile_sublist (· ==(32:UInt8)) (l:=(s.reverse.dropWhile (· == 32)).reverse)).length_le;have b:=(List.dropWhile_sublist (· ==(32:UInt8)) (l:=s.reverse)).length_le;simp only[List.length_reverse]at a b;omega
 intro s
 induction hn:s.length using Nat.strongRecOn generalizing s with
 | _ n ih =>
   intro cur w;cases s with
   | nil =>
     have:=ht cur;cases w<;>simp[eE]<;>omega
   | cons c r =>
     rw[List.length_cons]at hn;cases w with
     | true =>
       cases r with
       | nil =>
         have:=ht (cur++[c]);simp only[aC,List.length_cons,List.length_nil]at this;simp[eE];omega
       | cons d r =>
         rw[List.length_cons]at hn;rw[eE];split
         ·obtain⟨a,b⟩:=ih r.length (by omega) r rfl (cur++[c,d]) true;refine⟨by omega,fun z hz=>?_⟩;have:=b z hz;simp only[aC,List.length_cons,List.length_nil]at this ⊢;omega
         ·obtain⟨a,b⟩:=ih (d::r).length (by simp;omega) (d::r) rfl (cur++[c]) (decide (c.toNat≠34));refine⟨by simp only[List.length_cons]at *;omega,fun z hz=>?_⟩;have:=b z hz;simp only[aC,List.length_cons,List.length_nil]at this ⊢;omega
     | false =>
       rw[eE];split
       ·obtain⟨a,b⟩:=ih r.length (by omega) r rfl [] false;refine⟨by simp;omega,fun z hz=>?_⟩;rcases List.mem_cons.1 hz with rfl|hz
        ·have:=ht cur;simp;omega
        ·have:=b z hz;simp only[List.length_nil,List.length_cons]at this ⊢;omega
       ·obtain⟨a,b⟩:=ih r.length (by omega) r rfl (cur++[c]) (decide (c.toNat=34));refine⟨by omega,fun z hz=>?_⟩;have:=b z hz;simp only[aC,List.length_cons,List.length_nil]at this ⊢;omega
def Kw(s:aG)(y:UInt8): (iZ s y).length<=s.length+1/\ ∀ z ∈ iZ s y,z.length<=s.length:=by
 have:=Sk y s [] false;simpa[iZ]using this
def HI(s:aG): bT (r8 s)=true/\jv (r8 s).n/\(r8 s).s.length<=40:=by
 unfold r8;split
 ·exact HG s
 ·unfold r7;split
  ·exact⟨by simp[bT],Sj s,by simp⟩
  ·exact⟨by decide,xH,by decide⟩
def Ls(s:aG)(hs:s.length<=2 ^ 17): aH aE 149 [.str s] (.bJ [cU (pA s).1,.bool (pA s).2]):=by
 have c1:aH aE 12 [.str s,.int .u8 44] (bI (iZ s 44)):=wh s 44 (by omega);obtain⟨p1,p2⟩:=Kw s 44;obtain⟨E,hE⟩:∃ E,pA s=E:=⟨_,rfl⟩;rw[hE];unfold pA at hE;generalize iZ s 44=P at *;simp only[bI]at c1;simp only[cU];refine aJ Ex ?_;intro Q au aA aB;repeat' first|refine aq ?_|refine ak ?_ ?_<;>intro hw<;>try omega|fail
 with_reducible refine bn [2,3,4,6,7,8,12,13,14,15,16,17,18,19,20,21,22,23,24,25,26,27,28,29,30,31,32,33,34] (fun q:Nat × List bx=>[(12,I q.1),(4,.own EV 0 q.1 0 q.1)]) (fun q=> .vec EV (((P.take q.1).map r8).map eR)::q.2) (fun q=>q.1<=P.length/\ ∀ k,k<q.1->zT (P.getD k default)=true) (fun q=>P.length-q.1) ((0,[])) ?_ ?_ ?_ ?_
 ·simp
 ·rfl
 ·exact at_
 rintro⟨i,τ⟩ r ⟨g1,g2⟩;dsimp only at g1 g2;by_cases hi:i<P.length
 ·have hp:=p2 _ (aV hi);have ht:=take_succ hi;have bV:=fun he=>aY (q:=fun k=>zT (P.getD k default)=true) g2 (i:=i) he;have jY:(((P.take i).map r8).map eR).length=i:=by simp;omega
  have Sl:zT (P.getD i default)=false->P.all zT=false:=fun h=>by
   rw[List.all_eq_false];exact⟨_,aV hi,by rw[h];decide⟩
  obtain⟨z,hz⟩:∃ z,P.getD i default=z:=⟨_,rfl⟩;rw[hz]at hp ht bV Sl;have c2:=Jh z (by omega);have c3:=Cy z (by omega);have eW:((P.take (i+1)).map r8).map eR=((P.take i).map r8).map eR++[eR (r8 z)]:=by rw[ht];simp
  have hB:zT z=(Fk z ||(fF z).2):=rfl;have hVv:r8 z=if Fk z=true then wg z else r7 z:=rfl
  rw[hB]at bV Sl;rw[hVv]at eW;clear hB hVv;generalize wg z=a at *;generalize Fk z=b at *;generalize r7 z=c at *;generalize (fF z).2=d at *;simp only[eR]at c2 c3;cases b with
  | true =>
    rw[if_pos rfl]at eW;repeat' first|simp (disch:=omega) only[go_sem,au,aA,aB,hz,jY]|refine aq ?_|refine ak ?_ ?_<;>intro hw<;>try omega|fail
    all_goals first|exact bh|skip
    refine⟨(i+1,τ++[.cells [I a.kind,I a.n,.str a.s]]),?_,?_,?_,bL,?_⟩
    ·exact⟨by dsimp only;omega,bV rfl⟩
    ·dsimp only;omega
    ·dsimp only;rw[eW];first|done|rfl|(simp[go_sem];done)
    ·dsimp only;simp (disch:=omega) only[dU,dm,and_true,go_sem,au,aA,aB,Int.natCast_add,Int.cast_ofNat_Int]<;>(try trivial)<;>(try omega)<;>(try (repeat (first|trivial|(refine And.intro ?_ ?_)|(congr 1;omega))))
  | false =>
    rw[if_neg (by decide)]at eW;cases d with
    | true =>
      repeat' first|simp (disch:=omega) only[go_sem,au,aA,aB,hz,jY]|refine aq ?_|refine ak ?_ ?_<;>intro hw<;>try omega|fail
      all_goals first|exact bh|skip
      refine⟨(i+1,τ++[.cells [I c.kind,I c.n,.str c.s]]),?_,?_,?_,bL,?_⟩
      ·exact⟨by dsimp only;omega,bV rfl⟩
      ·dsimp only;omega
      ·dsimp only;rw[eW];first|done|rfl|(simp[go_sem];done)
      ·dsimp only;simp (disch:=omega) only[dU,dm,and_true,go_sem,au,aA,aB,Int.natCast_add,Int.cast_ofNat_Int]<;>(try trivial)<;>(try omega)<;>(try (repeat (first|trivial|(refine And.intro ?_ ?_)|(congr 1;omega))))
    | false =>
      rw[if_neg (by rw[Sl rfl];decide)]at hE;repeat' first|simp (disch:=omega) only[go_sem,au,aA,aB,hz,jY]|refine aq ?_|refine ak ?_ ?_<;>intro hw<;>try omega|fail
      all_goals first|exact bh|(rw[<-hE];exact bG (bf.cons (View.ai _) (bf.refl rfl)))|skip
 ·have ht:P.take i=P:=aT (by omega)
  have L8:P.all zT=true:=by
   rw[bq];intro z hz;obtain⟨k,hk,rfl⟩:=bA hz;have:=g2 k (by omega);simpa[aj,hk]using this
  rw[if_pos L8]at hE;have c4:=HE (P.map r8) ⟨by simp;omega,fun v hv=>by obtain⟨z,hz,rfl⟩:=cW.1 hv;exact⟨(HI z).1,(HI z).2.1⟩⟩;obtain⟨V,hV⟩:∃ V,P.map r8=V:=⟨_,rfl⟩;have hVl:V.length=P.length:=by rw[<-hV];simp
  rw[hV]at c4 hE;generalize nX V=w at *;simp only[cU]at c4;have hcmp:decide (w=s)=(w==s):=by rw[aS];simp
  rw[hcmp]at hE;obtain rfl:i=V.length:=by omega
  repeat' first|simp (disch:=omega) only[go_sem,au,aA,aB,ht,hV]|refine aq ?_|refine tN c4 ?_|refine ak ?_ ?_<;>intro hw<;>try omega|fail
  all_goals first|exact bh|(rw[<-hE];refine bG (bf.cons (View.vec rfl (by simp) (by simp) (Mw _)) (bf.refl rfl));done)|skip
end Go.Proofs.YtcjcnfcedihckaaGreatDoor
namespace Go.Proofs.YtcjcnfcedihckaaGreatDoor
open Go.AM
set_option maxRecDepth 4000
def Yh(c:UInt8)(s:aG): (eP c s).1.length<=s.length/\(eP c s).2.1.length<=s.length:=by
 induction s with
 | nil=>exact⟨Nat.le_refl _,Nat.le_refl _⟩
 | cons b s ih =>
   rw[eP];split
   ·simp
   ·simp;omega
def UC: ∀(k:Nat) (s:aG),∀ z ∈ pieces k s,z.length<=s.length:=by
 intro k
 induction k with
 | zero=>intro s z hz;obtain rfl:=List.mem_singleton.1 hz;exact Nat.le_refl _
 | succ k ih =>
   intro s z hz;rw[pieces]at hz;split at hz
   ·have:=Yh 32 s;rcases List.mem_cons.1 hz with rfl|hz
    ·exact this.1
    ·have:=ih _ z hz;omega
   ·obtain rfl:=List.mem_singleton.1 hz;exact Nat.le_refl _
def yH{l:List aG}{n:Nat}(h:∀ z ∈ l,z.length<=n)(k:Nat): (l.getD k []).length<=n:=by
 rw[aj];cases hq:l[k]? with
 | none=>simp
 | some z=>exact h z (gZ hq)
def D2(s:aG)(n:Nat): ((cM s n).2.2=true->(cM s n).1.length=n)/\(∀ z ∈ (cM s n).1,z.length<=s.length)/\(cM s n).2.1.length<=s.length:=by
 have h:=UC n s;have hg:=yH h n;unfold cM;split
 ·exact⟨fun h=>by simp at h,fun z hz=>by simp at hz,bD _⟩
 split
 ·rename_i e;exact⟨fun _=>e,h,bD _⟩
 ·exact⟨fun _=>by simp;omega,fun z hz=>h z (List.mem_of_mem_take hz),hg⟩
def Ft(t:List aG × aG × Bool): AV:= .bJ [bI t.1,.str t.2.1,.bool t.2.2]
def Wo{l:List aG}{k:Nat}(h:k<l.length): (l.map bj).getD k .undef = .str (l.getD k []):=by
 simp[aj,h,bj]
def Ji(s:aG)(n:Nat)(hn:1<=n)(Sp:n<=2 ^ 20)(hs:s.length<=2 ^ 40): aH aE 150 [.str s,.str [32],I n] (bI (pieces (n-1) s)):=by
 have c:=Fq s n hn Sp hs;generalize pieces (n-1) s=P at *;simp only[bI]at c ⊢;refine aJ Df ?_;intro Q au aA aB;repeat' first|refine aq ?_|refine d_ c ?_|refine ak ?_ ?_<;>intro hw<;>try omega|fail
 all_goals first|exact bh|exact eT jq|exact aL rfl (by simp)|skip
def Cz(s:aG)(n:Nat)(hn:1<=n)(Sp:n<=2 ^ 10)(hs:s.length<=2 ^ 40): aH aE 107 [.str s,I n] (Ft (cM s n)):=by
 have c:=Ji s (n+1) (by omega) (by omega) hs;have e:((n+1:Nat):Int)=(n:Int)+1:=by omega
 rw[e,Nat.add_sub_cancel]at c;have hl:=(Sh n s).2;unfold cM;generalize pieces n s=P at *;simp only[bI]at c;by_cases h1:P.length<n
 ·rw[if_pos h1];simp only[Ft,bI];refine aJ rA ?_;intro Q au aA aB;repeat' first|refine aq ?_|refine d_ c ?_|refine ak ?_ ?_<;>intro hw<;>try omega|fail
  all_goals first|exact bh|exact bG (bf.cons (View.ai _) (bf.refl rfl))|skip
 rw[if_neg h1];by_cases h2:P.length=n
 ·rw[if_pos h2];simp only[Ft,bI];refine aJ rA ?_;intro Q au aA aB;repeat' first|refine aq ?_|refine d_ c ?_|refine ak ?_ ?_<;>intro hw<;>try omega|fail
  all_goals first|exact bh|exact bG jq|skip
 rw[if_neg h2];have hg:=Wo (l:=P) (k:=n) (by omega);have W6:(P.map bj).take n=(P.take n).map bj:=by rw[List.map_take]
 have hzz:∀ z:aG,decide (z≠[]) = !(z==[]):=fun z=>by cases z<;>rfl
 rw[hzz];generalize P.getD n []=z at *;simp only[Ft,bI];refine aJ rA ?_;intro Q au aA aB;repeat' first|simp (disch:=omega) only[go_sem,au,aA,aB,hg,W6]|refine aq ?_|refine d_ c ?_|refine ak ?_ ?_<;>intro hw<;>try omega|fail
 all_goals first|exact bh|exact bp rfl (by simp only[AV.bX,AV.dh,pT,g_])|skip
def aat(k:Int)(s:aG)(hs:s.length<=2 ^ 17): aH aE 109 [I k,.str s] (.bJ [dF (yF k s).1,.bool (yF k s).2]):=by
 have c1:aH aE 107 [.str s,I 3] (Ft (cM s 3)):=Cz s 3 (by decide) (by decide) (by omega);obtain⟨s1,s2,s3⟩:=D2 s 3;have z2:=yH s2 2;have z1:=yH s2 1;obtain⟨R,hR⟩:∃ R,yF k s=R:=⟨_,rfl⟩;rw[hR];unfold yF at hR;generalize cM s 3=t at *;obtain⟨l,rest,ok⟩:=t;dsimp only at *;have c2:=uf (l.getD 2 []) (by omega);have c3:=Ls rest (by omega);simp only[Ft,bI]at c1;by_cases hb:ok=false\/k=3/\rest≠[]
 ·rw[if_pos hb]at hR;rw[<-hR];simp only[dF,fE,mB,fh,bu];refine aJ rB ?_;intro Q au aA aB;repeat' first|refine aq ?_|refine ak ?_ ?_<;>intro hw<;>try omega|fail
  all_goals first|exact bh|exact bG jq|skip
 rw[if_neg hb]at hR;have hok:ok=true:=by cases ok<;>simp_all
 subst hok;have hl:=s1 rfl;have g1:l.getD (Int.toNat 1) default=l.getD 1 []:=rfl;have g2:l.getD (Int.toNat 2) default=l.getD 2 []:=rfl;generalize l.getD 1 []=nm at *;generalize l.getD 2 []=w2 at *;generalize fF w2=m at *;obtain⟨m,mb⟩:=m;dsimp only at *;by_cases hm:mb=true/\rest≠[]
 ·rw[if_pos hm]at hR;obtain⟨rfl,hr⟩:=hm;generalize pA rest=V at *;obtain⟨vl,vb⟩:=V;dsimp only at *;simp only[cU]at c3;rw[<-hR];simp only[dF,fE,mB,fh,bu];refine aJ rB ?_;intro Q au aA aB;repeat' first|simp (disch:=omega) only[go_sem,au,aA,aB,hl,g1,g2]|refine aq ?_|refine ak ?_ ?_<;>intro hw<;>try omega|fail
  all_goals first|exact bh|exact bG jq|skip
 ·rw[if_neg hm]at hR;rw[<-hR];simp only[dF,fE,mB,fh,bu];refine aJ rB ?_;intro Q au aA aB;repeat' first|simp (disch:=omega) only[go_sem,au,aA,aB,hl,g1,g2]|refine aq ?_|refine ak ?_ ?_<;>intro hw<;>try omega|fail
  all_goals first|exact bh|exact bG jq|(exfalso;simp_all;done)|skip
def Lt(k:Int)(s:aG)(n:Nat)(hn:n=1\/n=2)(hs:s.length<=2 ^ 17): aH aE 110 [I k,.str s,I n] (.bJ [dF (qQ k s n).1,.bool (qQ k s n).2]):=by
 have c1:=Cz s (n+1) (by omega) (by omega) (by omega);have e:((n+1:Nat):Int)=(n:Int)+1:=by omega
 rw[e]at c1;obtain⟨s1,s2,s3⟩:=D2 s (n+1);have z2:=yH s2 2;have z1:=yH s2 1;obtain⟨R,hR⟩:∃ R,qQ k s n=R:=⟨_,rfl⟩;rw[hR];unfold qQ at hR;generalize cM s (n+1)=t at *;obtain⟨l,rest,ok⟩:=t;dsimp only at *;have c2:=uf (l.getD 1 []) (by omega);have c3:=uf (l.getD 2 []) (by omega);simp only[Ft,bI]at c1;by_cases hb:ok=false\/rest≠[]
 ·rw[if_pos hb]at hR;rw[<-hR];simp only[dF,fE,mB,fh,bu];refine aJ qw ?_;intro Q au aA aB;repeat' first|refine aq ?_|refine ak ?_ ?_<;>intro hw<;>try omega|fail
  all_goals first|exact bh|exact bG jq|skip
 rw[if_neg hb]at hR;have hok:ok=true:=by cases ok<;>simp_all
 have yg:rest=[]:=by simp_all
 subst hok;subst yg;have hl:=s1 rfl;have g1:l.getD (Int.toNat 1) default=l.getD 1 []:=rfl;have g2:l.getD (Int.toNat 2) default=l.getD 2 []:=rfl;generalize l.getD 1 []=w1 at *;generalize l.getD 2 []=w2 at *;generalize fF w1=m at *;obtain⟨m,mb⟩:=m;generalize fF w2=m' at *;obtain⟨m',mb'⟩:=m';dsimp only at *;by_cases hm:mb=true/\n=2
 ·rw[if_pos hm]at hR;obtain⟨rfl,rfl⟩:=hm;rw[<-hR];simp only[dF,fE,mB,fh,bu];refine aJ qw ?_;intro Q au aA aB;repeat' first|simp (disch:=omega) only[go_sem,au,aA,aB,hl,g1,g2]|refine aq ?_|refine ak ?_ ?_<;>intro hw<;>try omega|fail
  all_goals first|exact bh|exact bG jq|skip
 ·rw[if_neg hm]at hR;rw[<-hR];simp only[dF,fE,mB,fh,bu];refine aJ qw ?_;intro Q au aA aB;repeat' first|simp (disch:=omega) only[go_sem,au,aA,aB,hl,g1]|refine aq ?_|refine ak ?_ ?_<;>intro hw<;>try omega|fail
  all_goals first|exact bh|exact bG jq|(exfalso;simp_all;done)|skip
end Go.Proofs.YtcjcnfcedihckaaGreatDoor
namespace Go.Proofs.YtcjcnfcedihckaaGreatDoor
open Go.AM
set_option maxRecDepth 4000
end Go.Proofs.YtcjcnfcedihckaaGreatDoor
namespace Go.AM
def Rel.abM {g : aM} {w : World} {σ : ae} {k : Nat} {cs cs' : List AV} (h : Rel g w σ) (hk : σ[k]? = some (.cells cs)) (hl : cs.length = cs'.length) (hs : cs'.all AV.scalar = true)
    (hv:∀ i v,VR g w (cs.getD i .undef) v->VR g w (cs'.getD i .undef) v):Rel g w (σ.set k (.cells cs'))/\ik σ g w (σ.set k (.cells cs')) g w:=by
 have hlt:=(aP.1 hk).1
 have live:∀ l,Live (σ.set k (.cells cs')) l->Live σ l:=fun l hl=>by
  rcases kC hl with⟨rfl,_,_⟩|⟨_,h⟩
  ·exact⟨_,hk,rfl⟩
  ·exact h
 refine⟨⟨by simpa using h.len,h.lt,fun l o ho=>?_,fun l l' b h1 h2=>h.inj l l' b (live l h1) (live l' h2),fun l b h1=>h.ug l b (live l h1),h.glob⟩,⟨.refl _ _,Nat.le_refl _,rfl,rfl,rfl,fun _ _ _=>rfl,fun _ _ h=> .inl h,fun b _ ht=>?_⟩⟩
 ·by_cases e:l=k
  ·subst e;rw[List.getElem?_set_self hlt]at ho;injection ho with ho;subst ho;obtain⟨o1,o2,b,vs,o3,o4,o5,o6,o7⟩:=h.ok _ _ hk;exact⟨o1,hs,b,vs,o3,o4,by rw[<-hl];exact o5,fun i hi=>hv i _ (o6 i (by rw[hl];exact hi)),by rw[<-hl];exact o7⟩
  ·rw[List.getElem?_set_ne (Ne.symm e)]at ho;exact h.ok l o ho
 ·obtain⟨l,h1,h2⟩:=ht;exact⟨l,live l h1,h2⟩
def adU(el:El)(l:Nat)(xs:List AV)(a b:AV): Prop:=a=b\/(a = .own el l xs.length 0 xs.length/\b = .aF false el xs)
def dK.WA {P : Program} {f : FuncId} {σ : ae} {R : Out -> ae -> Prop} {l k : Nat} {T : Option TypeId} {el : El} {xs cs cs' : List AV} (hl : σ[l]? = some (.cy T el xs)) (hk : σ[k]? = some (.cells cs)) (hx : xs ≠ [])
    (hc:cs.length=cs'.length) (hf:∀ i,adU el l xs (cs.getD i .undef) (cs'.getD i .undef)) (h:dK P f [.agg cs'] ((σ.set l .dead).set k (.cells cs')) R):dK P f [.agg cs] σ R:=by
 refine⟨h.1,fun g w vs hR hlen hvs=>?_⟩;have oc:k≠l:=fun e=>by subst e;rw[hl]at hk;cases hk
 obtain⟨mD,qW,hrow⟩:=hR.ok l _ hl;rcases hrow with⟨hx',_,_⟩|⟨b,bs,hb,hrow,hsz,hle,fK,_⟩
 ·exact absurd hx' hx
 obtain⟨r1,r2⟩:=hR.freeze hl rfl hb
 have key:∀ v,VR g w (.own el l xs.length 0 xs.length) v->VR (g.k_ b) w (.aF false el xs) v:=fun v hv=>by
  cases hv with
  | own _ _ _ _ _ _ hO =>
  obtain⟨_,_,A,cap,rfl,h4⟩:=hO;obtain⟨_,h6,h7⟩:=h4 mD.symm;have hxl:0<xs.length:=List.length_pos_iff.2 hx;have hlt:0<g.cap l:=by omega
  have hA:=h7 hlt;rw[hb]at hA;simp only[cS]at hA;subst hA
  have hidx:∀ i c,i<xs.length->c<el.sz->g.off l+i*el.sz+c<bs.size:=fun i c h1 h2=>by
   rw[hsz];have:i*el.sz+el.sz<=g.cap l*el.sz:=by rw[<-cV];exact bE _ (by omega)
   omega
  have hoff:∀ i c,g.off l+0*el.sz+(i*el.sz+c)=g.off l+i*el.sz+c:=fun i c=>by omega
  refine VR.aF (g:=g.k_ b) (w:=w) false el xs b (g.off l+0*el.sz) cap (.inr rfl) (fun h=>by cases h) (by omega) (fun i h1=>qW i h1) (fun i c h1 h2=>?_) (fun i c h1 h2=>?_)
  ·rw[hoff,hrow.cell (hidx i c h1 h2)];rfl
  ·have e1 : dP w ⟨b, g.off l + i * el.sz + c, none⟩ = bs.getD (g.off l + i * el.sz + c) Go.undef := by
    simp only[dP,hrow.cell (hidx i c h1 h2),bB]
   rw[hoff,e1];exact(fK i c h1 h2).mono r2.mono
 have YV:∀ v,VR (g.k_ b) w (.own el l xs.length 0 xs.length) v->VR (g.k_ b) w (.aF false el xs) v:=fun v hv=>by
  cases hv with
  | own _ _ _ _ _ _ hO=>exact key v (.own _ _ _ _ _ _ hO)
 have seen:∀ i v,VR (g.k_ b) w (cs.getD i .undef) v->VR (g.k_ b) w (cs'.getD i .undef) v:=fun i v hv=>by
  rcases hf i with e|⟨e1,e2⟩
  ·rw[<-e];exact hv
  ·rw[e2];rw[e1]at hv;exact YV v hv
 obtain⟨_,o2,_⟩:=hR.ok k _ hk
 have hsc:cs'.all AV.scalar=true:=by
  rw[bq];intro a ha;obtain⟨i,hi,rfl⟩:=bA ha;have e0:cs'.getD i .undef=cs'[i]:=by simp[aj,hi]
  rw[<-e0];rcases hf i with e|⟨_,e2⟩
  ·rw[<-e];have hi':i<cs.length:=by omega
   have e1:cs.getD i .undef=cs[i]:=by simp[aj,hi']
   rw[e1];exact bq.1 o2 _ (dD hi')
  ·rw[e2];rfl
 obtain⟨q1,q2⟩:=r1.abM (k:=k) (cs:=cs) (cs':=cs') (by rw[List.getElem?_set_ne oc.symm];exact hk) hc hsc seen;refine(h.2 (g.k_ b) w vs q1 hlen (fun i hi=>?_)).mono ?_
 ·match i,hi with
  | 0, _ =>
    have h0:=(hvs 0 (by simp)).mono r2.mono;simp only[bR]at h0 ⊢;generalize vs.getD 0 Go.undef=v0 at h0 ⊢;cases h0 with
    | agg _ ws hl hs hh =>
      exact .agg cs' ws (by omega) hsc (fun j hj=>seen j _ (hh j (by omega)))
 ·rintro e w' ⟨out,g',σ',a1,a2,a3,a4⟩;exact⟨out,g',σ',a1,(r2.trans q2).trans a2,a3,a4⟩
end Go.AM
namespace Go.Proofs.YtcjcnfcedihckaaGreatDoor
open Go.AM
set_option maxRecDepth 4000
end Go.Proofs.YtcjcnfcedihckaaGreatDoor
namespace Go.Proofs.YtcjcnfcedihckaaGreatDoor
open Go.AM
set_option maxRecDepth 4000
def UD(c:Cell): (uM c).1.length<=200:=by
 unfold uM;repeat' split
 all_goals first|(simp;done)|(dsimp only;omega)
def UE(x:Expr): (rO x).1.length<=200:=by
 unfold rO kj;split
 ·simp
 split
 ·simp
 split
 ·simp
 ·rename_i h;simp only[decide_eq_true_eq]at h;dsimp only;omega
def Kx{t:Table}(h:Hz t){r:eO}(hr:r ∈ t.rules): r.cells.length=t.ins.length/\r.outs.length=t.outs.length:=by
 have hc:=h.clean;have h0:(fC t).2.2.2=0:=by rw[hc]
 obtain⟨c1,c2,c3⟩:=tA h0;obtain⟨_,m2,m3⟩:=pz c1;have hlen:(dR t).1.lines.length=t.rules.length:=by rw[m3];exact oI _ _
 have mF:t.rules=n7 t t.rules.length:=by
  have:=congrArg (fun q=>q.1.rules) (c3.symm.trans hc);dsimp only at this;rw[hlen]at this;exact this.symm
 rw[mF]at hr;obtain⟨j,hj,rfl⟩:=cW.1 hr;have hj:=dI.1 hj;have jY:uP t j=(jm t j).1:=by unfold uP;rw[m3];exact Uf _ hj
 obtain⟨l1,l2,_,_,l5⟩:=Hj (m2 j hj)
 have hl:(jm t j).1=⟨j9 t (t.rules.getD j default) (t.rules.getD j default).cells.length,nu t (t.rules.getD j default) (t.rules.getD j default).outs.length⟩:=by
  unfold jm;rw[l5]
 unfold kQ;rw[Ce,jY,hl];dsimp only;rw[qO,zJ];exact⟨by rw[uO];exact l1,by rw[w7];exact l2⟩
def UG{t:Table}(h:Hz t){r:eO}(hr:r ∈ t.rules): (∀ s ∈ r.cells,s.length<=200)/\ ∀ s ∈ r.outs,s.length<=200:=by
 have hc:=h.clean;have h0:(fC t).2.2.2=0:=by rw[hc]
 obtain⟨c1,c2,c3⟩:=tA h0
 have mF:t.rules=n7 t (dR t).1.lines.length:=by
  have:=congrArg (fun q=>q.1.rules) (c3.symm.trans hc);dsimp only at this;exact this.symm
 rw[mF]at hr;obtain⟨j,hj,rfl⟩:=cW.1 hr;unfold kQ;rw[Ce];refine⟨fun s hs=>?_,fun s hs=>?_⟩
 ·obtain⟨m,hm,rfl⟩:=cW.1 hs;exact UD _
 ·obtain⟨m,hm,rfl⟩:=cW.1 hs;exact UE _
def nC{s:aG}(h:fc s=true): s.length<=16:=by
 simp only[fc,aD,decide_eq_true_eq]at h;exact h.1.2
def N1{t:Table}(h:Hz t){c:cL}(hc:c ∈ t.outs): c.order.length<=8:=by
 obtain⟨_,_,f3,_⟩:=nA h.frame;obtain⟨h1,h2,h3⟩:=r9 f3;have ho:=h3 _ hc;unfold gO at ho;split at ho
 ·simp only[aD,decide_eq_true_eq]at ho;exact ho.2.2
 ·simp only[decide_eq_true_eq]at ho;omega
def N2{t:Table}(h:Hz t): t.ins.length<=6/\t.outs.length<=6/\t.rules.length<=24:=by
 obtain⟨f1,f2,f3,f4,f5⟩:=nA h.frame;exact⟨(uV (r9 f2).1).1,(uV (r9 f3).1).1,f5⟩
def UH{t:Table}(h:Hz t)(hg:∀ c ∈ t.outs,∀ v ∈ c.order,jv v.n): Uz t:=by
 obtain⟨f1,f2,f3,f4,f5⟩:=nA h.frame;obtain⟨p1,p2,p3,p4,p5⟩:=Cu f4;obtain⟨l1,l2,l3⟩:=N2 h;have hn:=nC f1;refine⟨by omega,⟨by omega,p2⟩,⟨p3,p4⟩,⟨by omega,fun c hc=>?_⟩,⟨by omega,fun c hc=>?_⟩,by omega,fun r hr=>?_⟩
 ·obtain⟨a,b,d,_⟩:=Cv h hc;have:=nC a;exact⟨by omega,by omega,d⟩
 ·obtain⟨a,b,d,e⟩:=zV h hc;have:=nC a;have:=N1 h hc;exact⟨⟨by omega,by omega,d⟩,by omega,fun v hv=>⟨e v hv,hg c hc v hv⟩⟩
 ·obtain⟨a,b⟩:=Kx h hr;obtain⟨x,y⟩:=UG h hr;exact⟨⟨by omega,fun s hs=>by have:=x s hs;omega⟩,by omega,fun s hs=>by have:=y s hs;omega⟩
def N3{t:Table}(h:l7 t): ∀ c ∈ t.outs,∀ v ∈ c.order,jv v.n:=fun c hc v hv=>((h.2.2.1.2 c hc).2.2 v hv).1
structure abN (t:Table):Prop where
 ok:l7 t
 tx:Uz t
 ins:t.ins.length<=6
 outs:t.outs.length<=6
 rules:t.rules.length<=24
structure abO (r:qc):Prop where
 out:∀ c ∈ r.out,jX c
 tab:r.now≠0->abN r.t
end Go.Proofs.YtcjcnfcedihckaaGreatDoor
namespace Go.AM
end Go.AM
namespace Go.Proofs.YtcjcnfcedihckaaGreatDoor
open Go.AM
set_option maxRecDepth 4000
abbrev EK: El:=⟨true,12⟩
def Lv(S:ae)(el:El)(q:Nat)(v:AV)(ys:List AV): Prop:=(ys=[]/\v = .ai)\/(ys≠[]/\v = .own el q ys.length 0 ys.length/\S[q]? = some (.vec el ys))
def Lv.scalar{S:ae}{el:El}{q:Nat}{v:AV}{ys:List AV}(h:Lv S el q v ys): v.scalar=true:=by
 rcases h with⟨_,rfl⟩|⟨_,rfl,_⟩<;>rfl
def Lv.view{S:ae}{el:El}{q:Nat}{v:AV}{ys zs:List AV}(h:Lv S el q v ys)(hz:bf [] ys zs): View S v (.aF false el zs):=by
 rcases h with⟨rfl,rfl⟩|⟨_,rfl,hq⟩
 ·obtain rfl:zs=[]:=List.length_eq_zero_iff.1 hz.1.symm;exact .ai _
 ·exact .Zr hq rfl rfl ⟨hz.1,fun i hi=>(hz.2 i hi).mono (fun l o hl=>by simp at hl)⟩
def Lv.keep{S S':ae}{el:El}{q:Nat}{v:AV}{ys:List AV}(h:Lv S el q v ys)(hk:∀ o,S[q]? = some o->S'[q]? = some o): Lv S' el q v ys:=by
 rcases h with h|⟨h1,h2,h3⟩
 ·exact .inl h
 ·exact .inr ⟨h1,h2,hk _ h3⟩
structure RdO (S:ae) (k:Nat) (l:List fy) (o:AV) (q0:Nat) (ys:List AV):Prop where
 vw:bf [] ys (l.map dF)
 o:Lv S EK q0 o ys
structure RdT (S:ae) (k:Nat) (t:Table) (i u p:AV) (q1 q2 q3:Nat):Prop where
 i:Lv S EC q1 i (t.ins.map bF)
 u:Lv S EC q2 u (t.outs.map bF)
 p:Lv S ER q3 p (t.rules.map cn)
 d:t.ins≠[]->t.outs≠[]->q1≠q2
section
variable {S S':ae} {k q q0 q1 q2 q3:Nat} {cs ys:List AV} {l:List fy} {t:Table} {o i u p:AV}
end
section
variable {S:ae} {k:Nat} {l:List fy} {n:Int} {t:Table} {K Kp:AV->ae->Prop}
end
end Go.Proofs.YtcjcnfcedihckaaGreatDoor
namespace Go.Proofs.YtcjcnfcedihckaaGreatDoor
open Go.AM
set_option maxRecDepth 4000
end Go.Proofs.YtcjcnfcedihckaaGreatDoor
namespace Go.Proofs.YtcjcnfcedihckaaGreatDoor
open Go.AM
set_option maxRecDepth 4000
def Fz(el:El)(v:AV)(ys:List AV): Prop:=(ys=[]/\v = .ai)\/v = .aF false el ys
def Fz.view{σ : ae}{el:El}{v:AV}{ys:List AV}(h:Fz el v ys)(hp:AV.bX ys=true): View σ v (.aF false el ys):=by
 rcases h with⟨rfl,rfl⟩|rfl
 ·exact .ai _
 ·exact .refl _ (by simpa[AV.dh]using hp)
end Go.Proofs.YtcjcnfcedihckaaGreatDoor
namespace Go.Proofs.YtcjcnfcedihckaaGreatDoor
open Go.AM
set_option maxRecDepth 4000
def Fz.scalar{el:El}{v:AV}{ys:List AV}(h:Fz el v ys): v.scalar=true:=by
 rcases h with⟨_,rfl⟩|rfl<;>rfl
end Go.Proofs.YtcjcnfcedihckaaGreatDoor
namespace Go.Proofs.YtcjcnfcedihckaaGreatDoor
open Go.AM
set_option maxRecDepth 4000
def s_{c:fy}(ok:jX c)(h:fq c=0): Xh c:=by
 obtain⟨k1,k2,k3,k4,k5⟩:=tB h;obtain⟨p1,p2,p3,p4,p5⟩:=R7 k4;obtain⟨q1,q2,q3,q4,q5,q6,q7⟩:=ok;refine⟨fun hk=>UH (NS (k1 hk)) (N3 q2),?_,q4,⟨by omega,fun v hv=>⟨bq.1 k5.2.2.2.2 v hv,(q5.2 v hv).1⟩⟩,q6,q7⟩;by_cases hk:c.kind=2\/c.kind=3
 ·have:=nC (k5.1 hk).1;omega
 ·rw[(p2.resolve_left hk).1];simp
def Qv{ls:List aG}{m:Nat}(h:∀ s ∈ ls,s.length<=m): (fX ls).length<=ls.length*(m+1):=by
 induction ls with
 | nil=>simp[fX]
 | cons s l ih =>
   have e:fX (s::l)=s++(10::fX l):=by simp[fX]
   have:=ih (fun z hz=>h z (cE _ hz));have:=h s (List.mem_cons_self ..);rw[e,aC,List.length_cons,List.length_cons,cY];omega
def td{l:List aG}{m:Nat}(h:∀ s ∈ l,s.length<=m): (cH l).length<=l.length*(m+1):=qR h
def UI{l:List aG}{m:Nat}(h:∀ s ∈ l,s.length<=m): (lA l).length<=l.length*(m+3):=qR h
def aau{l:List eu}(h:∀ v ∈ l,bT v=true/\jv v.n): (nX l).length<=l.length*84:=by
 have:=qR (l:=l.map eJ) (sep:=jf) (m:=82) (fun z hz=>by
  obtain⟨v,hv,rfl⟩:=cW.1 hz;exact wW v (h v hv).2.1 (h v hv).2.2 (h v hv).1)
 rw[bS]at this;exact this
def Ky{s:aG}{l:List eu}(h:∀ v ∈ l,bT v=true/\jv v.n): (jB s l).length<=s.length+1+l.length*84:=by
 have:=aau h;unfold jB;split
 ·omega
 ·simp;omega
def Jj{n:Int}(h:jv n): (Lib.itoa n).length<=21:=E5 n h.1 h.2
def aav{t:Table}(h:Hz t)(hg:∀ c ∈ t.outs,∀ v ∈ c.order,jv v.n): (fX (pL t)).length<=2 ^ 20:=by
 obtain⟨l1,l2,l3⟩:=N2 h;have hn:=nC (nA h.frame).1;have hx:(pL t).length<=38:=by simp[pL,w_];omega
 have key:∀ s ∈ pL t,s.length<=5000:=by
  intro s hs;simp only[pL,w_,cF,List.mem_cons,List.mem_append,cW,List.not_mem_nil,or_false]at hs;rcases hs with rfl|((⟨c,hc,rfl⟩|⟨c,hc,rfl⟩)|⟨r,hr,rfl⟩)|rfl
  ·have := td (l := [Ht, t.name, ud t.aZ, wc t.agg]) (m := 16) (fun z hz => by
    have:=Jf t.aZ;have:=Jg t.agg;simp only[List.mem_cons,List.not_mem_nil,or_false]at hz;rcases hz with rfl|rfl|rfl|rfl<;>first|omega|decide)
   unfold w9;simp only[List.length_cons,List.length_nil]at this;omega
  ·have kR:=nC (Cv h hc).1
   have:=td (l:=[Ur,c.name,kF c.kind]) (m:=16) (fun z hz=>by
    have:=s9 c.kind;simp only[List.mem_cons,List.not_mem_nil,or_false]at hz;rcases hz with rfl|rfl|rfl<;>first|omega|decide)
   unfold mC;simp only[List.length_cons,List.length_nil]at this;omega
  ·obtain⟨a,b,d,e⟩:=zV h hc;have kR:=nC a;have ho:=N1 h hc
   have:=td (l:=[Cr,c.name,kF c.kind]) (m:=16) (fun z hz=>by
    have:=s9 c.kind;simp only[List.mem_cons,List.not_mem_nil,or_false]at hz;rcases hz with rfl|rfl|rfl<;>first|omega|decide)
   have hb:=Ky (s:=cH [Cr,c.name,kF c.kind]) (l:=c.order) (fun v hv=>⟨e v hv,hg c hc v hv⟩);unfold jE;simp only[List.length_cons,List.length_nil]at this;omega
  ·obtain⟨a,b⟩:=Kx h hr;obtain⟨x,y⟩:=UG h hr;have h1:=UI x;have h2:=UI y
   have:=td (l:=[Hu,lA r.cells,[58],lA r.outs]) (m:=1218) (fun z hz=>by
    simp only[List.mem_cons,List.not_mem_nil,or_false]at hz;rcases hz with rfl|rfl|rfl|rfl<;>first|omega|decide)
   unfold gY;simp only[List.length_cons,List.length_nil]at this;omega
  ·decide
 have:=Qv key;have:=bE 5001 hx;omega
def Fu{c:fy}(ok:jX c)(h:fq c=0): (fX (dZ c)).length<=2 ^ 28:=by
 have tx:=s_ ok h;obtain⟨k1,k2,k3,k4,k5⟩:=tB h;obtain⟨q1,q2,q3,q4,q5,q6,q7⟩:=ok;have i1:=Jj q4;have i2:=Jj q6;have i3:=Jj q7
 have one:∀ s:aG,s.length<=1000->(fX [s]).length<=2 ^ 28:=fun s hs=>by
  have:=Qv (ls:=[s]) (m:=1000) (fun z hz=>by rw[List.mem_singleton.1 hz];exact hs);simp only[List.length_cons,List.length_nil]at this;omega
 have w3:∀ a b d:aG,a.length<=21->b.length<=21->d.length<=21->(cH [a,b,d]).length<=66:=fun a b d ha hb hd=>by
  have:=td (l:=[a,b,d]) (m:=21) (fun z hz=>by
   simp only[List.mem_cons,List.not_mem_nil,or_false]at hz;rcases hz with rfl|rfl|rfl<;>assumption)
  simpa using this
 have w2:∀ a b:aG,a.length<=21->b.length<=21->(cH [a,b]).length<=66:=fun a b ha hb=>by
  have:=td (l:=[a,b]) (m:=21) (fun z hz=>by
   simp only[List.mem_cons,List.not_mem_nil,or_false]at hz;rcases hz with rfl|rfl<;>assumption)
  simp only[List.length_cons,List.length_nil]at this;omega
 unfold dZ;split
 ·rename_i hk;have:=aav (NS (k1 hk)) (N3 q2);omega
 split
 ·rename_i hk;have hn:=nC (k5.1 (.inl hk)).1;have hb:=Ky (s:=cH [k9,c.name,Lib.itoa c.ver]) (l:=c.row) tx.row.2;have:=w3 k9 c.name (Lib.itoa c.ver) (by decide) (by omega) i1;have:=k5.2.2.2.1;exact one _ (by omega)
 split
 ·rename_i hk;have hn:=nC (k5.1 (.inr hk)).1;have:=w3 nx c.name (Lib.itoa c.ver) (by decide) (by omega) i1;exact one _ (by omega)
 split
 ·have:=w3 rZ (Lib.itoa c.iw) (Lib.itoa c.jZ) (by decide) i2 i3;exact one _ (by omega)
 split
 ·have:=w2 ny (Lib.itoa c.iw) (by decide) i2;exact one _ (by omega)
 ·refine one _ ?_;unfold lB;repeat' split
  all_goals decide
end Go.Proofs.YtcjcnfcedihckaaGreatDoor
namespace Go.Proofs.YtcjcnfcedihckaaGreatDoor
open Go.AM
set_option maxRecDepth 4000
def RdA(S:ae)(k:Nat)(r:qc): Prop:= ∃ o i u p q0 ys,S[k]? = some (.cells [o,I r.now,.str r.t.name,i,u,I r.t.aZ,I r.t.agg,p])/\RdO S k r.out o q0 ys/\(r.now≠0-> ∃ q1 q2 q3,RdT S k r.t i u p q1 q2 q3)
end Go.Proofs.YtcjcnfcedihckaaGreatDoor
namespace Go.Proofs.YtcjcnfcedihckaaGreatDoor
open Go.AM
set_option maxRecDepth 4000
end Go.Proofs.YtcjcnfcedihckaaGreatDoor
namespace Go.Proofs.YtcjcnfcedihckaaGreatDoor
open Go.AM
set_option maxRecDepth 4000
end Go.Proofs.YtcjcnfcedihckaaGreatDoor
namespace Go.Proofs.YtcjcnfcedihckaaGreatDoor
open Go.AM
set_option maxRecDepth 4000
def eP3(p:List fy × Int × Int): AV:= .bJ [lH p.1,I p.2.1,I p.2.2]
structure PI (s0:aG) (F:qc × aG × Int) (s:aG) (n:Int) (S:ae):Prop where
 ex:∃ f r u,s.length<=f/\Xg f r s n=F/\Inv r u/\abO r/\RdA S 0 r
 len:s.length<=s0.length
 n1:1<=n
 n2:n+s.length<=s0.length+1
end Go.Proofs.YtcjcnfcedihckaaGreatDoor
namespace Go.Proofs.YtcjcnfcedihckaaGreatDoor
open Go.AM
set_option maxRecDepth 4000
abbrev sB: aG:=[108,111,103,32,50,32,53,10]
abbrev sP: aG:=[108,105,115,116,10,108,111,103,32,50,32,53,10]
def CA: fq pG=0:=by decide
def UJ: fq n9=0:=by decide
def UK: Lib.itoa 2=[50]:=by unfold Lib.itoa;rw[if_neg (by decide)];exact nr (by decide)
def UL: Lib.itoa 5=[53]:=by unfold Lib.itoa;rw[if_neg (by decide)];exact nr (by decide)
def Kz: dZ pG=[[108,111,103,32,50,32,53]]:=by
 have:dZ pG=[cH [rZ,Lib.itoa 2,Lib.itoa 5]]:=rfl;rw[this,UK,UL];rfl
def UM: dZ n9=[[108,105,115,116]]:=rfl
def Wp: jF [pG]=sB:=by simp[jF,Kz,fX]
def UN: n_ [pG]=(sB,0):=by
 unfold n_;rw[if_neg (by decide),List.find?_cons_of_neg (by rw[CA];decide),List.find?_nil];dsimp only;rw[Wp]
def Wq: fL lS [n9,pG] [n9,pG]=true:=by decide
def Wr: (iZ [97,32,124,32,34,124,34] 124).length=2:=by decide
end Go.Proofs.YtcjcnfcedihckaaGreatDoor
namespace Go.Proofs.YtcjcnfcedihckaaGreatDoor
open Go.AM
set_option maxRecDepth 4000
def Yi(l:List fy)(hl:l.length<=2 ^ 30)(h:∀ c ∈ l,jX c): aH aE 9 [lH l] (eB (n_ l)) :=
 DY l hl h fun c hc hk=>⟨s_ (h c hc) hk,Fu (h c hc) hk⟩
end Go.Proofs.YtcjcnfcedihckaaGreatDoor
namespace Go.Proofs.YtcjcnfcedihckaaGreatDoor
open Go.AM
set_option maxRecDepth 4000
end Go.Proofs.YtcjcnfcedihckaaGreatDoor
namespace Go.Proofs.YtcjcnfcedihckaaGreatDoor
open Go.AM
set_option maxRecDepth 4000
def UO(s:aG): iL (32::s)=iL s:=by
 unfold iL Lib.trimB Lib.trimLeftB Lib.trimRightB;rw[List.reverse_cons,List.dropWhile_append];split
 ·rename_i h;rw[List.isEmpty_iff.1 h];simp
 ·rw[List.reverse_append];simp
def UP(s:aG): iL (s++[32])=iL s:=by
 unfold iL Lib.trimB Lib.trimLeftB Lib.trimRightB;rw[List.reverse_append];simp
def UQ{s:aG}(h1:s=[]\/s.head?≠some 32)(h2:s=[]\/s.getLast?≠some 32): iL s=s:=by
 rcases h1 with rfl|h1
 ·rfl
 rcases h2 with rfl|h2
 ·rfl
 unfold iL Lib.trimB Lib.trimLeftB Lib.trimRightB
 have e:s.reverse.dropWhile (· ==(32:UInt8))=s.reverse:=by
  cases hr:s.reverse with
  | nil=>rfl
  | cons a l =>
    have:s.getLast? = some a:=by rw[<-List.head?_reverse,hr];rfl
    rw[List.dropWhile_cons_of_neg];intro ha;exact h2 (by rw[this,eq_of_beq ha])
 rw[e,List.reverse_reverse];cases s with
 | nil=>rfl
 | cons a l =>
   rw[List.dropWhile_cons_of_neg];intro ha;exact h1 (by rw[List.head?_cons,eq_of_beq ha])
def Yj{z:aG}(h0:0<z.length)(h:(z.getD 0 0).toNat=32): iL (z.drop 1)=iL z:=by
 cases z with
 | nil=>simp at h0
 | cons a l =>
   have:a=32:=UInt8.toNat_inj.1 (by simpa using h);subst this;rw[UO];rfl
def Yk{z:aG}(h:z.length=0\/(z.getD 0 0).toNat≠32): z=[]\/z.head?≠some 32:=by
 cases z with
 | nil=>exact .inl rfl
 | cons a l =>
   refine .inr fun e=>?_;simp only[List.head?_cons,Option.some.injEq]at e;subst e;rcases h with h|h
   ·simp at h
   ·exact h (by simp)
def Yl{z:aG}(h0:0<z.length)(h:(z.getD (z.length-1) 0).toNat=32): iL (z.take (z.length-1))=iL z:=by
 have e:z=z.take (z.length-1)++[32]:=by
  have h1:z.take (z.length-1+1)=z.take (z.length-1)++[z.getD (z.length-1) 0]:=by
   rw[List.take_add_one,aj];simp[show z.length-1<z.length by omega]
  have h2:z.getD (z.length-1) 0=32:=UInt8.toNat_inj.1 (by simpa using h);rw[h2,show z.length-1+1=z.length by omega,List.take_length]at h1;exact h1
 conv=>rhs;rw[e,UP]
def Ym{z:aG}(h:z.length=0\/(z.getD (z.length-1) 0).toNat≠32): z=[]\/z.getLast?≠some 32:=by
 by_cases hz:z=[]
 ·exact .inl hz
 refine .inr fun e=>?_;rcases h with h|h
 ·exact hz (List.length_eq_zero_iff.1 h)
 ·rw[List.getLast?_eq_getElem?]at e;exact h (by rw[aj,e];rfl)
def head_take{z:aG}(n:Nat)(h:z=[]\/z.head?≠some 32): z.take n=[]\/(z.take n).head?≠some 32:=by
 rcases h with rfl|h
 ·exact .inl (by simp)
 ·cases n with
  | zero=>exact .inl rfl
  | succ n =>
    cases z with
    | nil=>exact .inl rfl
    | cons a l=>exact .inr h
def HJ(s:aG)(hs:s.length<=2 ^ 60): aH aE 26 [.str s] (.str (iL s)):=by
 obtain⟨E,hE⟩:∃ E,iL s=E:=⟨_,rfl⟩;rw[hE];refine aJ KI ?_;intro Q au aA aB;repeat' first|refine aq ?_|refine ak ?_ ?_<;>intro hw<;>try omega|fail
 with_reducible refine bn [0,3,4,5,6,7,8,9,10,11,12] (fun z:aG=>[(0,.str z)]) (fun _=>[]) (fun z=>iL z=E/\z.length<=s.length) (fun z=>z.length) (s) ?_ ?_ ?_ ?_
 ·exact⟨hE,Nat.le_refl _⟩
 ·rfl
 ·exact at_
 rintro z r ⟨g1,g2⟩;by_cases hz:0<z.length/\(z.getD 0 0).toNat=32
 ·have e:=Yj hz.1 hz.2;repeat' first|refine aq ?_|refine ak ?_ ?_<;>intro hw<;>try omega|fail
  all_goals first|exact bh|skip
  refine⟨z.drop 1,⟨by rw[e];exact g1,by simp;omega⟩,by simp;omega,by first|rfl|(simp[go_sem];done),bL,?_⟩;exact at_
 ·have S8:=Yk (z:=z) (by omega);repeat' first|refine aq ?_|refine ak ?_ ?_<;>intro hw<;>try omega|fail
  all_goals first|exact bh|skip
  all_goals
   with_reducible refine bn [0,13,14,15,16,17,18,19,20,21,22,23,24,25,26,27,28] (fun z:aG=>[(0,.str z)]) (fun _=>[]) (fun z=>iL z=E/\z.length<=s.length/\(z=[]\/z.head?≠some 32)) (fun z=>z.length) (z) ?_ ?_ ?_ ?_
   ·exact⟨g1,g2,S8⟩
   ·rfl
   ·exact at_
   rintro y r ⟨k1,k2,k3⟩;by_cases hy:0<y.length/\(y.getD (y.length-1) 0).toNat=32
   ·have e:=Yl hy.1 hy.2;have ei:(y.length:Int)-1=((y.length-1:Nat):Int):=by omega
    repeat' first|simp (disch:=omega) only[go_sem,au,aA,aB,ei]|refine aq ?_|refine ak ?_ ?_<;>intro hw<;>try omega|fail
    all_goals first|exact bh|skip
    refine⟨y.take (y.length-1),⟨by rw[e];exact k1,by simp;omega,head_take _ k3⟩,by simp;omega,by first|rfl|(simp[go_sem];done),bL,?_⟩;exact at_
   ·have hy':=Ym (z:=y) (by omega);have ei:0<y.length->(y.length:Int)-1=((y.length-1:Nat):Int):=fun h=>by omega
    rw[UQ k3 hy']at k1;by_cases h0:0<y.length
    ·have ei:=ei h0;repeat' first|simp (disch:=omega) only[go_sem,au,aA,aB,ei]|refine aq ?_|refine ak ?_ ?_<;>intro hw<;>try omega|fail
     all_goals first|exact bh|(rw[<-k1];exact eT jq)|skip
    ·repeat' first|refine aq ?_|refine ak ?_ ?_<;>intro hw<;>try omega|fail
     all_goals first|exact bh|(rw[<-k1];exact eT jq)|skip
