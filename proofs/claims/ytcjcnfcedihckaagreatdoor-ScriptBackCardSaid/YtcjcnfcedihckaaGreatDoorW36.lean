/- Part. -/
import Derived.Test.YtcjcnfcedihckaaGreatDoorW35
set_option linter.all false
set_option maxHeartbeats 8000000
namespace Go.Proofs.YtcjcnfcedihckaaGreatDoor
open Go.AM
set_option maxRecDepth 4000
def vV(s:aI): iE (fV s).1:=by
 unfold fV;cases h:Lib.atoiAll s with
 | ok n =>
   dsimp only;split
   ·obtain⟨a,b⟩:=Lib.atoiAll_bounds h;exact⟨by omega,by omega⟩
   ·exact kx
 | «syntax»=>exact kx
 | range=>exact kx
def C1(s:aI)(hs:s.length<=2 ^ 40): aP aK 184 [.str s] (.bO [fF (qP s),.bool (fV s).2]):=by
 have c1:=strconv_Atoi s hs;unfold qP fV;unfold SG at c1;cases h:Lib.atoiAll s with
 | ok n =>
   obtain⟨a,b⟩:=Lib.atoiAll_bounds h;have c2:=strconv_Itoa n (by omega) (by omega);rw[h]at c1;dsimp only at c1 ⊢;by_cases ht:Lib.itoa n=s
   ·simp only[if_pos ht,if_true];generalize Lib.itoa n=t at *;have hne:nk NK.i AV.iT AV.iT=some true:=rfl;simp only[fF];refine aR oR ?_;intro Q aF aG aH;repeat' first|simp (disch:=omega) only[go_sem,aF,aG,aH,hne]|refine aE ?_|refine aD ?_ ?_<;>intro hw<;>try omega|fail
    all_goals first|exact bN|exact cG h_|skip
   ·simp only[if_neg ht,aB,if_false];generalize Lib.itoa n=t at *;have hne:nk NK.i AV.iT AV.iT=some true:=rfl;simp only[fF,v0];refine aR oR ?_;intro Q aF aG aH;repeat' first|simp (disch:=omega) only[go_sem,aF,aG,aH,hne]|refine aE ?_|refine aD ?_ ?_<;>intro hw<;>try omega|fail
    all_goals first|exact bN|exact cG h_|skip
 | «syntax» =>
   rw[h]at c1;dsimp only at c1 ⊢;simp only[aB,if_false,fF,v0];have hne:nk NK.i (AV.kg YS AV.undef) AV.iT=some false:=rfl;refine aR oR ?_;intro Q aF aG aH;repeat' first|simp (disch:=omega) only[go_sem,aF,aG,aH,hne]|refine aE ?_|refine aD ?_ ?_<;>intro hw<;>try omega|fail
   all_goals first|exact bN|exact cG h_|skip
 | range =>
   rw[h]at c1;dsimp only at c1 ⊢;simp only[aB,if_false,fF,v0];have hne:nk NK.i (AV.kg YS AV.undef) AV.iT=some false:=rfl;refine aR oR ?_;intro Q aF aG aH;repeat' first|simp (disch:=omega) only[go_sem,aF,aG,aH,hne]|refine aE ?_|refine aD ?_ ?_<;>intro hw<;>try omega|fail
   all_goals first|exact bN|exact cG h_|skip
def XT(s:aI): (qP s).n=(fV s).1:=by
 unfold qP;split
 ·rfl
 ·rename_i h;unfold fV at h ⊢;cases ha:Lib.atoiAll s with
  | ok n =>
    rw[ha]at h;dsimp only at h ⊢;split
    ·rename_i h2;rw[if_pos h2]at h;exact absurd rfl h
    ·rfl
  | «syntax»=>rfl
  | range=>rfl
def vg(s:aI)(hs:s.length<=2 ^ 40): aP aK 151 [.str s] (.bO [I (fV s).1,.bool (fV s).2]):=by
 have c1:=C1 s hs;have hn:=XT s;rw[<-hn];generalize qP s=v at *;generalize (fV s).2=b at *;simp only[fF]at c1;refine aR EY ?_;intro Q aF aG aH;repeat' first|refine aE ?_|refine aD ?_ ?_<;>intro hw<;>try omega|fail
 all_goals first|exact bN|exact cG h_|skip
def Hj(s:aI): bT (rD s)=true/\iE (rD s).n/\(rD s).s.length<=40:=by
 have hr:=Qk s;have ho:=wh s;have z:bT v0=true/\iE v0.n/\v0.s.length<=40:=⟨by decide,kx,by decide⟩;unfold rD;split
 ·exact z
 generalize (bG s).1.length-1=q;obtain⟨r1,r2⟩:=hr q;obtain⟨o1,o2,o3⟩:=ho q;generalize (bG s).1.getD q default=t at *;split
 ·rename_i hk;have hp:=r2 hk;refine⟨by simp[bT,hp],kx,?_⟩;simp only[gk,aq,decide_eq_true_eq]at hp;exact hp.1
 split
 ·rename_i hk;have hp:=r1 hk;refine⟨by simp[bT],?_,by simp⟩;dsimp only;split
  ·exact⟨by omega,by omega⟩
  ·exact⟨by omega,by omega⟩
 split
 ·exact⟨by decide,⟨by decide,by decide⟩,by decide⟩
 split
 ·exact⟨by decide,⟨by decide,by decide⟩,by decide⟩
 ·exact z
def VE{T:List Tok}(h:1<=T.length): (T.map oH).getD ((T.length:Int)-1).toNat .undef=oH (T.getD (T.length-1) default):=by
 have e:((T.length:Int)-1).toNat=T.length-1:=by omega
 rw[e,getD_map _ _ _ (by omega)]
def IQ(s:aI)(hs:s.length<=2 ^ 30): aP aK 183 [.str s] (.bO [fF (rD s),.bool (wY s)]):=by
 have c1:=Ii s hs;obtain⟨q1,q2,q3⟩:=Hj s;have c2:=Af (rD s) q2.1 q2.2 q1;have hlen:=(n6 s).1;have uw:=fun h=>VE (T:=(bG s).1) h;obtain⟨_,o2,o3⟩:=wh s ((bG s).1.length-1);have hpos:=(Qk s ((bG s).1.length-1)).1;unfold wY
 have hV:rD s=if(bG s).2.2≠0\/(bG s).1.length<1\/2<(bG s).1.length then v0
  else if((bG s).1.getD ((bG s).1.length-1) default).kind=3 then⟨2,0,((bG s).1.getD ((bG s).1.length-1) default).s⟩
  else if((bG s).1.getD ((bG s).1.length-1) default).kind=2 then⟨1,if(bG s).1.length=2 then -((bG s).1.getD ((bG s).1.length-1) default).n else((bG s).1.getD ((bG s).1.length-1) default).n,[]⟩
  else if((bG s).1.getD ((bG s).1.length-1) default).s=qV then⟨3,1,[]⟩
  else if((bG s).1.getD ((bG s).1.length-1) default).s=ou then⟨3,0,[]⟩else v0:=rfl
 generalize bG s=L at *;obtain⟨T,at_',er⟩:=L;dsimp only at *;simp only[Mv,sJ]at c1;by_cases Fa:er≠0\/T.length<1\/2<T.length
 ·rw[if_pos Fa]at hV ⊢;rw[hV];clear c2 hV uw;simp only[fF,v0];refine aR jh ?_;intro Q aF aG aH;repeat' first|refine aE ?_|refine aD ?_ ?_<;>intro hw<;>try omega|fail
  all_goals first|exact bN|exact cG h_|skip
 rw[if_neg Fa]at hV ⊢;have uw:=uw (by omega);have he:er=0:=by omega
 generalize T.getD (T.length-1) default=t at *;obtain⟨tk,ts,tn,tp⟩:=t;dsimp only at *;simp only[oH]at uw;have hcmp:∀ w:aI,decide (w=s)=(w==s):=fun w=>by rw[a_];simp
 rw[hcmp];by_cases k3:tk=3
 ·rw[if_pos k3]at hV;rw[hV]at c2 ⊢;generalize eN _=w at *;simp only[fF]at c2 ⊢;refine aR jh ?_;intro Q aF aG aH;repeat' first|simp (disch:=omega) only[go_sem,aF,aG,aH,uw]|refine aE ?_|refine aD ?_ ?_<;>intro hw<;>try omega|fail
  all_goals first|exact bN|exact cG h_|skip
 rw[if_neg k3]at hV;by_cases k2:tk=2
 ·rw[if_pos k2]at hV;by_cases l2:T.length=2
  ·have hz : -tn=0-tn:=by omega
   have hpos:=hpos k2;rw[if_pos l2,hz]at hV;rw[hV]at c2 ⊢;generalize eN _=w at *;simp only[fF]at c2 ⊢;refine aR jh ?_;intro Q aF aG aH;repeat' first|simp (disch:=omega) only[go_sem,aF,aG,aH,uw]|refine aE ?_|refine aD ?_ ?_<;>intro hw<;>try omega|fail
   all_goals first|(exfalso;omega)|(exfalso;contradiction)|exact cG h_|skip
  ·rw[if_neg l2]at hV;rw[hV]at c2 ⊢;generalize eN _=w at *;simp only[fF]at c2 ⊢;refine aR jh ?_;intro Q aF aG aH;repeat' first|simp (disch:=omega) only[go_sem,aF,aG,aH,uw]|refine aE ?_|refine aD ?_ ?_<;>intro hw<;>try omega|fail
   all_goals first|exact bN|exact cG h_|skip
 rw[if_neg k2]at hV;by_cases kt:ts=qV
 ·rw[if_pos kt]at hV;rw[hV]at c2 ⊢;generalize eN _=w at *;simp only[fF]at c2 ⊢;have hl:(5:Int)-(ts.length:Int)=1:=by rw[kt];rfl
  have kt':ts=[116,114,117,101]:=kt;refine aR jh ?_;intro Q aF aG aH;repeat' first|simp (disch:=omega) only[go_sem,aF,aG,aH,uw,hl]|refine aE ?_|refine aD ?_ ?_<;>intro hw<;>try omega|fail
  all_goals first|exact bN|exact cG h_|skip
 rw[if_neg kt]at hV;by_cases kf:ts=ou
 ·rw[if_pos kf]at hV;rw[hV]at c2 ⊢;generalize eN _=w at *;simp only[fF]at c2 ⊢;have hl:(5:Int)-(ts.length:Int)=0:=by rw[kf];rfl
  have kf':ts=[102,97,108,115,101]:=kf;refine aR jh ?_;intro Q aF aG aH;repeat' first|simp (disch:=omega) only[go_sem,aF,aG,aH,uw,hl]|refine aE ?_|refine aD ?_ ?_<;>intro hw<;>try omega|fail
  all_goals first|exact bN|exact cG h_|skip
 rw[if_neg kf]at hV;have kt':¬ ts=[116,114,117,101]:=kt;have kf':¬ ts=[102,97,108,115,101]:=kf;rw[hV]at c2 ⊢;generalize eN _=w at *;simp only[fF,v0]at c2 ⊢;refine aR jh ?_;intro Q aF aG aH;repeat' first|simp (disch:=omega) only[go_sem,aF,aG,aH,uw]|refine aE ?_|refine aD ?_ ?_<;>intro hw<;>try omega|fail
 all_goals first|exact bN|exact cG h_|skip
def SJ(y:UInt8): ∀(s cur:aI) (w:Bool),(eo y w cur s).length<=s.length+1/\ ∀ z ∈ eo y w cur s,z.length<=cur.length+s.length:=by
 have ht:∀ s:aI,(n9 s).length<=s.length:=fun s=>by
  unfold n9 Lib.trimB Lib.trimLeftB Lib.trimRightB;have a:=(List.dropWhile_sublist (· ==(32:UInt8)) (l:=(s.reverse.dropWhile (· == 32)).reverse)).length_le;have b:=(List.dropWhile_sublist (· ==(32:UInt8)) (l:=s.reverse)).length_le;simp only[List.length_reverse]at a b;omega
 intro s
 induction hn:s.length using Nat.strongRecOn generalizing s with
 | _ n ih =>
   intro cur w;cases s with
   | nil =>
     have:=ht cur;cases w<;>simp[eo]<;>omega
   | cons c r =>
     rw[List.length_cons]at hn;cases w with
     | true =>
       cases r with
       | nil =>
         have:=ht (cur++[c]);simp only[aA,List.length_cons,List.length_nil]at this;simp[eo];omega
       | cons d r =>
         rw[List.length_cons]at hn;rw[eo];split
         ·obtain⟨a,b⟩:=ih r.length (by omega) r rfl (cur++[c,d]) true;refine⟨by omega,fun z hz=>?_⟩;have:=b z hz;simp only[aA,List.length_cons,List.length_nil]at this ⊢;omega
         ·obtain⟨a,b⟩:=ih (d::r).length (by simp;omega) (d::r) rfl (cur++[c]) (decide (c.toNat≠34));refine⟨by simp only[List.length_cons]at *;omega,fun z hz=>?_⟩;have:=b z hz;simp only[aA,List.length_cons,List.length_nil]at this ⊢;omega
     | false =>
       rw[eo];split
       ·obtain⟨a,b⟩:=ih r.length (by omega) r rfl [] false;refine⟨by simp;omega,fun z hz=>?_⟩;rcases List.mem_cons.1 hz with rfl|hz
        ·have:=ht cur;simp;omega
        ·have:=b z hz;simp only[List.length_nil,List.length_cons]at this ⊢;omega
       ·obtain⟨a,b⟩:=ih r.length (by omega) r rfl (cur++[c]) (decide (c.toNat=34));refine⟨by omega,fun z hz=>?_⟩;have:=b z hz;simp only[aA,List.length_cons,List.length_nil]at this ⊢;omega
def rS(s:aI)(y:UInt8): (fG s y).length<=s.length+1/\ ∀ z ∈ fG s y,z.length<=s.length:=by
 have:=SJ y s [] false;simpa[fG]using this
def s5(s:aI): bT (oK s)=true/\iE (oK s).n/\(oK s).s.length<=40:=by
 unfold oK;split
 ·exact Hj s
 ·unfold qP;split
  ·exact⟨by simp[bT],vV s,by simp⟩
  ·exact⟨by decide,kx,by decide⟩
def Kq{s:aI}(hs:s.length<=2 ^ 17): Qv (kA s).1/\ ∀ v ∈ (kA s).1,v.s.length<=40:=by
 have h:=(rS s 44).1;unfold kA;split
 ·refine⟨⟨by simp;omega,fun v hv=>?_⟩,fun v hv=>?_⟩
  ·obtain⟨z,hz,rfl⟩:=cC.1 hv;exact⟨(s5 z).1,(s5 z).2.1⟩
  ·obtain⟨z,hz,rfl⟩:=cC.1 hv;exact(s5 z).2.2
 ·exact⟨⟨by simp,fun v hv=>by cases hv⟩,fun v hv=>by cases hv⟩
def A9(s:aI)(hs:s.length<=2 ^ 17): aP aK 149 [.str s] (.bO [dy (kA s).1,.bool (kA s).2]):=by
 have c1:aP aK 12 [.str s,.int .u8 44] (bX (fG s 44)):=pH s 44 (by omega);obtain⟨p1,p2⟩:=rS s 44;obtain⟨E,hE⟩:∃ E,kA s=E:=⟨_,rfl⟩;rw[hE];unfold kA at hE;generalize fG s 44=P at *;simp only[bX]at c1;simp only[dy];refine aR EW ?_;intro Q aF aG aH;repeat' first|refine aE ?_|refine aD ?_ ?_<;>intro hw<;>try omega|fail
 with_reducible refine bZ [2,3,4,6,7,8,12,13,14,15,16,17,18,19,20,21,22,23,24,25,26,27,28,29,30,31,32,33,34] (fun q:Nat × List aY=>[(12,I q.1),(4,.own EV 0 q.1 0 q.1)]) (fun q=> .vec EV (((P.take q.1).map oK).map fF)::q.2) (fun q=>q.1<=P.length/\ ∀ k,k<q.1->uu (P.getD k default)=true) (fun q=>P.length-q.1) ((0,[])) ?_ ?_ ?_ ?_
 ·simp
 ·rfl
 ·exact at_
 rintro⟨i,τ⟩ r ⟨g1,g2⟩;dsimp only at g1 g2;by_cases hi:i<P.length
 ·have hp:=p2 _ (bJ hi);have ht:=take_succ hi;have cZ:=fun he=>bI (q:=fun k=>uu (P.getD k default)=true) g2 (i:=i) he;have pC:(((P.take i).map oK).map fF).length=i:=by simp;omega
  have SK:uu (P.getD i default)=false->P.all uu=false:=fun h=>by
   rw[List.all_eq_false];exact⟨_,bJ hi,by rw[h];decide⟩
  obtain⟨z,hz⟩:∃ z,P.getD i default=z:=⟨_,rfl⟩;rw[hz]at hp ht cZ SK;have c2:=IQ z (by omega);have c3:=C1 z (by omega);have jT:((P.take (i+1)).map oK).map fF=((P.take i).map oK).map fF++[fF (oK z)]:=by rw[ht];simp
  have hB:uu z=(wY z ||(fV z).2):=rfl;have hVv:oK z=if wY z=true then rD z else qP z:=rfl
  rw[hB]at cZ SK;rw[hVv]at jT;clear hB hVv;generalize rD z=a at *;generalize wY z=b at *;generalize qP z=c at *;generalize (fV z).2=d at *;simp only[fF]at c2 c3;cases b with
  | true =>
    rw[if_pos rfl]at jT;repeat' first|simp (disch:=omega) only[go_sem,aF,aG,aH,hz,pC]|refine aE ?_|refine aD ?_ ?_<;>intro hw<;>try omega|fail
    all_goals first|exact bN|skip
    refine⟨(i+1,τ++[.cells [I a.kind,I a.n,.str a.s]]),?_,?_,?_,dH,?_⟩
    ·exact⟨by dsimp only;omega,cZ rfl⟩
    ·dsimp only;omega
    ·dsimp only;rw[jT];first|done|rfl|(simp[go_sem];done)
    ·dsimp only;simp (disch:=omega) only[jY,jb,and_true,go_sem,aF,aG,aH,Int.natCast_add,Int.cast_ofNat_Int]<;>(try trivial)<;>(try omega)<;>(try (repeat (first|trivial|(refine And.intro ?_ ?_)|(congr 1;omega))))
  | false =>
    rw[if_neg (by decide)]at jT;cases d with
    | true =>
      repeat' first|simp (disch:=omega) only[go_sem,aF,aG,aH,hz,pC]|refine aE ?_|refine aD ?_ ?_<;>intro hw<;>try omega|fail
      all_goals first|exact bN|skip
      refine⟨(i+1,τ++[.cells [I c.kind,I c.n,.str c.s]]),?_,?_,?_,dH,?_⟩
      ·exact⟨by dsimp only;omega,cZ rfl⟩
      ·dsimp only;omega
      ·dsimp only;rw[jT];first|done|rfl|(simp[go_sem];done)
      ·dsimp only;simp (disch:=omega) only[jY,jb,and_true,go_sem,aF,aG,aH,Int.natCast_add,Int.cast_ofNat_Int]<;>(try trivial)<;>(try omega)<;>(try (repeat (first|trivial|(refine And.intro ?_ ?_)|(congr 1;omega))))
    | false =>
      rw[if_neg (by rw[SK rfl];decide)]at hE;repeat' first|simp (disch:=omega) only[go_sem,aF,aG,aH,hz,pC]|refine aE ?_|refine aD ?_ ?_<;>intro hw<;>try omega|fail
      all_goals first|exact bN|(rw[<-hE];exact cG (bL.cons (View.au _) (bL.refl rfl)))|skip
 ·have ht:P.take i=P:=bw (by omega)
  have L2:P.all uu=true:=by
   rw[aW];intro z hz;obtain⟨k,hk,rfl⟩:=bC hz;have:=g2 k (by omega);simpa[aj,hk]using this
  rw[if_pos L2]at hE;have c4:=Hg (P.map oK) ⟨by simp;omega,fun v hv=>by obtain⟨z,hz,rfl⟩:=cC.1 hv;exact⟨(s5 z).1,(s5 z).2.1⟩⟩;obtain⟨V,hV⟩:∃ V,P.map oK=V:=⟨_,rfl⟩;have hVl:V.length=P.length:=by rw[<-hV];simp
  rw[hV]at c4 hE;generalize pF V=w at *;simp only[dy]at c4;have hcmp:decide (w=s)=(w==s):=by rw[a_];simp
  rw[hcmp]at hE;obtain rfl:i=V.length:=by omega
  repeat' first|simp (disch:=omega) only[go_sem,aF,aG,aH,ht,hV]|refine aE ?_|refine xK c4 ?_|refine aD ?_ ?_<;>intro hw<;>try omega|fail
  all_goals first|exact bN|(rw[<-hE];refine cG (bL.cons (View.vec rfl (by simp) (by simp) (Ud _)) (bL.refl rfl));done)|skip
def IS(c:UInt8)(s:aI): (cH c s).1.length<=s.length/\(cH c s).2.1.length<=s.length:=by
 induction s with
 | nil=>exact⟨Nat.le_refl _,Nat.le_refl _⟩
 | cons b s ih =>
   rw[cH];split
   ·simp
   ·simp;omega
def VF: ∀(k:Nat) (s:aI),∀ z ∈ pieces k s,z.length<=s.length:=by
 intro k
 induction k with
 | zero=>intro s z hz;obtain rfl:=bK.1 hz;exact Nat.le_refl _
 | succ k ih =>
   intro s z hz;rw[pieces]at hz;split at hz
   ·have:=IS 32 s;rcases List.mem_cons.1 hz with rfl|hz
    ·exact this.1
    ·have:=ih _ z hz;omega
   ·obtain rfl:=bK.1 hz;exact Nat.le_refl _
def mz{l:List aI}{n:Nat}(h:∀ z ∈ l,z.length<=n)(k:Nat): (l.getD k []).length<=n:=by
 rw[aj];cases hq:l[k]? with
 | none=>simp
 | some z=>exact h z (fW hq)
def lR(s:aI)(n:Nat): ((cn s n).2.2=true->(cn s n).1.length=n)/\(∀ z ∈ (cn s n).1,z.length<=s.length)/\(cn s n).2.1.length<=s.length:=by
 have h:=VF n s;have hg:=mz h n;unfold cn;split
 ·exact⟨fun h=>by simp at h,fun z hz=>by simp at hz,bR _⟩
 split
 ·rename_i e;exact⟨fun _=>e,h,bR _⟩
 ·exact⟨fun _=>by simp;omega,fun z hz=>h z (List.mem_of_mem_take hz),hg⟩
def tZ(t:List aI × aI × Bool): AV:= .bO [bX t.1,.str t.2.1,.bool t.2.2]
def XU{l:List aI}{k:Nat}(h:k<l.length): (l.map cj).getD k .undef = .str (l.getD k []):=by
 simp[aj,h,cj]
def IU(s:aI)(n:Nat)(hn:1<=n)(hn2:n<=2 ^ 20)(hs:s.length<=2 ^ 40): aP aK 150 [.str s,.str [32],I n] (bX (pieces (n-1) s)):=by
 have c:=Fx s n hn hn2 hs;generalize pieces (n-1) s=P at *;simp only[bX]at c ⊢;refine aR DG ?_;intro Q aF aG aH;repeat' first|refine aE ?_|refine fm c ?_|refine aD ?_ ?_<;>intro hw<;>try omega|fail
 all_goals first|exact bN|exact iw h_|exact aU rfl (by simp)|skip
def pI(s:aI)(n:Nat)(hn:1<=n)(hn2:n<=2 ^ 10)(hs:s.length<=2 ^ 40): aP aK 107 [.str s,I n] (tZ (cn s n)):=by
 have c:=IU s (n+1) (by omega) (by omega) hs;have e:((n+1:Nat):Int)=(n:Int)+1:=by omega
 rw[e,Nat.add_sub_cancel]at c;have hl:=(SI n s).2;unfold cn;generalize pieces n s=P at *;simp only[bX]at c;by_cases h1:P.length<n
 ·rw[if_pos h1];simp only[tZ,bX];refine aR sH ?_;intro Q aF aG aH;repeat' first|refine aE ?_|refine fm c ?_|refine aD ?_ ?_<;>intro hw<;>try omega|fail
  all_goals first|exact bN|exact cG (bL.cons (View.au _) (bL.refl rfl))|skip
 rw[if_neg h1];by_cases h2:P.length=n
 ·rw[if_pos h2];simp only[tZ,bX];refine aR sH ?_;intro Q aF aG aH;repeat' first|refine aE ?_|refine fm c ?_|refine aD ?_ ?_<;>intro hw<;>try omega|fail
  all_goals first|exact bN|exact cG h_|skip
 rw[if_neg h2];have hg:=XU (l:=P) (k:=n) (by omega);have hmt:(P.map cj).take n=(P.take n).map cj:=by rw[List.map_take]
 have hzz:∀ z:aI,decide (z≠[]) = !(z==[]):=fun z=>by cases z<;>rfl
 rw[hzz];generalize P.getD n []=z at *;simp only[tZ,bX];refine aR sH ?_;intro Q aF aG aH;repeat' first|simp (disch:=omega) only[go_sem,aF,aG,aH,hg,hmt]|refine aE ?_|refine fm c ?_|refine aD ?_ ?_<;>intro hw<;>try omega|fail
 all_goals first|exact bN|exact b_ rfl (by simp only[AV.cA,AV.dz,uH,fP])|skip
def Kr(c:dX): AV.cA (ju c)=true:=by simp[ju,AV.cA]
def C2(k:Int)(s:aI)(hs:s.length<=2 ^ 17): aP aK 109 [I k,.str s] (.bO [ey (ko k s).1,.bool (ko k s).2]):=by
 have c1:aP aK 107 [.str s,I 3] (tZ (cn s 3)):=pI s 3 (by decide) (by decide) (by omega);obtain⟨s1,s2,s3⟩:=lR s 3;have z2:=mz s2 2;have z1:=mz s2 1;obtain⟨R,hR⟩:∃ R,ko k s=R:=⟨_,rfl⟩;rw[hR];unfold ko at hR;generalize cn s 3=t at *;obtain⟨l,rest,ok⟩:=t;dsimp only at *;have c2:=vg (l.getD 2 []) (by omega);have c3:=A9 rest (by omega);simp only[tZ,bX]at c1;by_cases hb:ok=false\/k=3/\rest≠[]
 ·rw[if_pos hb]at hR;rw[<-hR];simp only[ey,ju,eS,iH,br];refine aR sI ?_;intro Q aF aG aH;repeat' first|refine aE ?_|refine aD ?_ ?_<;>intro hw<;>try omega|fail
  all_goals first|exact bN|exact cG h_|skip
 rw[if_neg hb]at hR;have hok:ok=true:=by cases ok<;>simp_all
 subst hok;have hl:=s1 rfl;have g1:l.getD (Int.toNat 1) default=l.getD 1 []:=rfl;have g2:l.getD (Int.toNat 2) default=l.getD 2 []:=rfl;generalize l.getD 1 []=nm at *;generalize l.getD 2 []=w2 at *;generalize fV w2=m at *;obtain⟨m,mb⟩:=m;dsimp only at *;by_cases hm:mb=true/\rest≠[]
 ·rw[if_pos hm]at hR;obtain⟨rfl,hr⟩:=hm;generalize kA rest=V at *;obtain⟨vl,vb⟩:=V;dsimp only at *;simp only[dy]at c3;rw[<-hR];simp only[ey,ju,eS,iH,br];refine aR sI ?_;intro Q aF aG aH;repeat' first|simp (disch:=omega) only[go_sem,aF,aG,aH,hl,g1,g2]|refine aE ?_|refine aD ?_ ?_<;>intro hw<;>try omega|fail
  all_goals first|exact bN|exact cG h_|skip
 ·rw[if_neg hm]at hR;rw[<-hR];simp only[ey,ju,eS,iH,br];refine aR sI ?_;intro Q aF aG aH;repeat' first|simp (disch:=omega) only[go_sem,aF,aG,aH,hl,g1,g2]|refine aE ?_|refine aD ?_ ?_<;>intro hw<;>try omega|fail
  all_goals first|exact bN|exact cG h_|(exfalso;simp_all;done)|skip
def A_(k:Int)(s:aI)(n:Nat)(hn:n=1\/n=2)(hs:s.length<=2 ^ 17): aP aK 110 [I k,.str s,I n] (.bO [ey (jK k s n).1,.bool (jK k s n).2]):=by
 have c1:=pI s (n+1) (by omega) (by omega) (by omega);have e:((n+1:Nat):Int)=(n:Int)+1:=by omega
 rw[e]at c1;obtain⟨s1,s2,s3⟩:=lR s (n+1);have z2:=mz s2 2;have z1:=mz s2 1;obtain⟨R,hR⟩:∃ R,jK k s n=R:=⟨_,rfl⟩;rw[hR];unfold jK at hR;generalize cn s (n+1)=t at *;obtain⟨l,rest,ok⟩:=t;dsimp only at *;have c2:=vg (l.getD 1 []) (by omega);have c3:=vg (l.getD 2 []) (by omega);simp only[tZ,bX]at c1;by_cases hb:ok=false\/rest≠[]
 ·rw[if_pos hb]at hR;rw[<-hR];simp only[ey,ju,eS,iH,br];refine aR rm ?_;intro Q aF aG aH;repeat' first|refine aE ?_|refine aD ?_ ?_<;>intro hw<;>try omega|fail
  all_goals first|exact bN|exact cG h_|skip
 rw[if_neg hb]at hR;have hok:ok=true:=by cases ok<;>simp_all
 have YP:rest=[]:=by simp_all
 subst hok;subst YP;have hl:=s1 rfl;have g1:l.getD (Int.toNat 1) default=l.getD 1 []:=rfl;have g2:l.getD (Int.toNat 2) default=l.getD 2 []:=rfl;generalize l.getD 1 []=w1 at *;generalize l.getD 2 []=w2 at *;generalize fV w1=m at *;obtain⟨m,mb⟩:=m;generalize fV w2=m' at *;obtain⟨m',mb'⟩:=m';dsimp only at *;by_cases hm:mb=true/\n=2
 ·rw[if_pos hm]at hR;obtain⟨rfl,rfl⟩:=hm;rw[<-hR];simp only[ey,ju,eS,iH,br];refine aR rm ?_;intro Q aF aG aH;repeat' first|simp (disch:=omega) only[go_sem,aF,aG,aH,hl,g1,g2]|refine aE ?_|refine aD ?_ ?_<;>intro hw<;>try omega|fail
  all_goals first|exact bN|exact cG h_|skip
 ·rw[if_neg hm]at hR;rw[<-hR];simp only[ey,ju,eS,iH,br];refine aR rm ?_;intro Q aF aG aH;repeat' first|simp (disch:=omega) only[go_sem,aF,aG,aH,hl,g1]|refine aE ?_|refine aD ?_ ?_<;>intro hw<;>try omega|fail
  all_goals first|exact bN|exact cG h_|(exfalso;simp_all;done)|skip
def Hl(s:aI): dX × Bool:=if s=Ss then({ eS with kind:=4 },true)else if s=Nu then({ eS with kind:=7 },true)
 else if s=St then({ eS with kind:=8 },true)else if s=Sv then({ eS with kind:=9 },true)else (eS,false)
def XV{s:aI}{k:Nat}(h1:1<=k)(h9:k<=9)(hs:s≠[])(h:nM k=s): Hl s=({ eS with kind:=k },true):=by
 subst h;have:k=1\/k=2\/k=3\/k=4\/k=5\/k=6\/k=7\/k=8\/k=9:=by omega
 rcases this with rfl|rfl|rfl|rfl|rfl|rfl|rfl|rfl|rfl;all_goals first|rfl|exact absurd rfl hs
def XW{s:aI}(h:∀ k:Nat,1<=k->k<=9->s≠[]->nM k≠s): Hl s=(eS,false):=by
 have a:=h 4 (by decide) (by decide);have b:=h 7 (by decide) (by decide);have c:=h 8 (by decide) (by decide);have d:=h 9 (by decide) (by decide);unfold Hl;rw[if_neg (fun e=>a (by rw[e];decide) e.symm),if_neg (fun e=>b (by rw[e];decide) e.symm),if_neg (fun e=>c (by rw[e];decide) e.symm),if_neg (fun e=>d (by rw[e];decide) e.symm)]
def SL(s:aI)(hs:s.length<=2 ^ 17): aP aK 64 [.str s] (.bO [ey (l8 s).1,.bool (l8 s).2]):=by
 have c1:=m_ s 32 (by omega);have c2:=C2 2 s hs;have c3:=C2 3 s hs;have c4:aP aK 110 [I 5,.str s,I 2] _:=A_ 5 s 2 (.inr rfl) hs;have c5:aP aK 110 [I 6,.str s,I 1] _:=A_ 6 s 1 (.inl rfl) hs
 have hone:l8 s=if(cH 32 s).1=jJ then ko 2 s else if(cH 32 s).1=lg then ko 3 s
  else if(cH 32 s).1=tX then jK 5 s 2 else if(cH 32 s).1=kz then jK 6 s 1 else Hl s:=rfl
 have th:=fun k h1 h9 hs h=>XV (s:=s) (k:=k) h1 h9 hs h;have tn:=XW (s:=s);rw[hone];clear hone;generalize cH 32 s=t at *;obtain⟨w,x,y⟩:=t;generalize ko 2 s=N2 at *;obtain⟨d2,b2⟩:=N2;generalize ko 3 s=N3 at *;obtain⟨d3,b3⟩:=N3;generalize jK 5 s 2=N5 at *;obtain⟨d5,b5⟩:=N5;generalize jK 6 s 1=N6 at *;obtain⟨d6,b6⟩:=N6;generalize Hl s=T at *;dsimp only at *;simp only[vf,ey,ju]at c1 c2 c3 c4 c5;by_cases h2:w=jJ
 ·rw[if_pos h2];have h2':w=[100,101,99,105,100,101]:=h2;clear h2 th tn;simp only[ey,ju];refine aR om ?_;intro Q aF aG aH;repeat' first|refine aE ?_|refine aD ?_ ?_<;>intro hw<;>try omega|fail
  all_goals first|(exfalso;contradiction)|exact cG h_
 rw[if_neg h2];have h2':¬ w=[100,101,99,105,100,101]:=h2;by_cases h3:w=lg
 ·rw[if_pos h3];have Qc:w=[118,101,114,115,105,111,110]:=h3;clear h2 h3 th tn;simp only[ey,ju];refine aR om ?_;intro Q aF aG aH;repeat' first|refine aE ?_|refine aD ?_ ?_<;>intro hw<;>try omega|fail
  all_goals first|(exfalso;contradiction)|exact cG h_
 rw[if_neg h3];have Qc:¬ w=[118,101,114,115,105,111,110]:=h3;by_cases h4:w=tX
 ·rw[if_pos h4];have Tk:w=[108,111,103]:=h4;clear h2 h3 h4 th tn;simp only[ey,ju];refine aR om ?_;intro Q aF aG aH;repeat' first|refine aE ?_|refine aD ?_ ?_<;>intro hw<;>try omega|fail
  all_goals first|(exfalso;contradiction)|exact cG h_
 rw[if_neg h4];have Tk:¬ w=[108,111,103]:=h4;by_cases h5:w=kz
 ·rw[if_pos h5];have J3:w=[99,111,109,112,97,99,116]:=h5;clear h2 h3 h4 h5 th tn;simp only[ey,ju];refine aR om ?_;intro Q aF aG aH;repeat' first|refine aE ?_|refine aD ?_ ?_<;>intro hw<;>try omega|fail
  all_goals first|(exfalso;contradiction)|exact cG h_
 rw[if_neg h5];have J3:¬ w=[99,111,109,112,97,99,116]:=h5;clear h2 h3 h4 h5 c2 c3 c4 c5;obtain⟨E,hE⟩:∃ E,(AV.bO [ey T.1,.bool T.2])=E:=⟨_,rfl⟩;have hp:AV.cA [E]=true:=by rw[<-hE];simp[AV.cA,AV.dz]
 rw[hE];refine aR om ?_;intro Q aF aG aH;repeat' first|refine aE ?_|refine aD ?_ ?_<;>intro hw<;>try omega|fail
 all_goals first|(exfalso;contradiction)|skip
 with_reducible refine bZ [3,7,39,40,41,42,43,44,45,46,47,48,49,50,51,52] (fun q:Nat=>[(7,I ((q:Int)+1))]) (fun _=>[.cells [I 0,.str [],.au,.au,I 0,I 0,.au,.str [],I 0,.au,I 0,I 0]]) (fun q=>q<=9/\ ∀ k:Nat,1<=k->k<=q->s≠[]->nM k≠s) (fun q=>10-q) (0) ?_ ?_ ?_ ?_
 ·exact⟨by omega,fun k h1 h2=>by omega⟩
 ·rfl
 ·exact at_
 rintro q r ⟨g1,g2⟩;by_cases hq:q<9
 ·have c6:=CZ ((q:Int)+1);have hit:=fun hs h=>th (q+1) (by omega) (by omega) hs h;have e:((q+1:Nat):Int)=(q:Int)+1:=by omega
  have hnx:(s≠[]->nM ((q:Int)+1)≠s)-> ∀ k:Nat,1<=k->k<=q+1->s≠[]->nM k≠s:=fun h k h1 h2=>by
   by_cases hk:k=q+1
   ·subst hk;rw[e];exact h
   ·exact g2 k h1 (by omega)
  rw[e]at hit;generalize nM ((q:Int)+1)=z at *;repeat' first|refine aE ?_|refine aD ?_ ?_<;>intro hw<;>try omega|fail
  all_goals first
   |(exfalso;contradiction)
   |(rw[<-hE,hit (by assumption) (by assumption)];exact cG (bL.cons (Fp (c:= { eS with kind:=(q:Int)+1 }) (.au _) (.au _) (.au _) (.au _)) (bL.refl rfl)))
   | (refine ⟨q + 1, ?_, ?_, by first | rfl | (simp [go_sem]; done), dH, at_⟩ <;> (try dsimp only)
      ·exact⟨by omega,hnx (fun h1 h2=>by simp_all)⟩
      ·omega)
   | skip
 ·have tn:=tn (fun k h1 h9=>g2 k h1 (by omega));repeat' first|refine aE ?_|refine aD ?_ ?_<;>intro hw<;>try omega|fail
  all_goals first|(rw[<-hE,tn];exact cG (bL.cons (Fp (c:=eS) (.au _) (.au _) (.au _) (.au _)) (bL.refl rfl)))|skip
def Ba(s:aI)(hs:s.length<=2 ^ 17): aP aK 103 [.str s] (.bO [bq (kG s).1,.bool (kG s).2]):=by
 have c1:aP aK 107 [.str s,I 3] (tZ (cn s 3)):=pI s 3 (by decide) (by decide) (by omega);obtain⟨s1,s2,s3⟩:=lR s 3;obtain⟨R,hR⟩:∃ R,kG s=R:=⟨_,rfl⟩;rw[hR];unfold kG at hR;generalize cn s 3=t at *;obtain⟨l,rest,ok⟩:=t;dsimp only at *;have c2:=CY;have c3:=A9 rest (by omega);simp only[tZ,bX]at c1;cases ok with
 | false =>
   rw[if_pos rfl]at hR;rw[<-hR];simp only[bq,dy,br];refine aR rj ?_;intro Q aF aG aH;repeat' first|refine aE ?_|refine aD ?_ ?_<;>intro hw<;>try omega|fail
   all_goals first|exact bN|exact cG h_|skip
 | true =>
 rw[if_neg (by decide)]at hR;have hl:=s1 rfl;have g1:l.getD (Int.toNat 1) default=l.getD 1 []:=rfl;have g2:l.getD (Int.toNat 2) default=l.getD 2 []:=rfl;have c4:=oL pE (l.getD 2 []) (by decide);generalize l.getD 1 []=nm at *;generalize l.getD 2 []=w2 at *;generalize fy (fun x=>x==w2) pE=kd at *;simp only[bX]at c2 c4;by_cases hr:rest≠[]
 ·rw[if_pos hr]at hR;generalize kA rest=V at *;obtain⟨vl,vb⟩:=V;dsimp only at *;simp only[dy]at c3;rw[<-hR];simp only[bq,dy];refine aR rj ?_;intro Q aF aG aH;cases vb
  all_goals
   repeat' first|simp (disch:=omega) only[go_sem,aF,aG,aH,hl,g1,g2]|refine aE ?_|refine aD ?_ ?_<;>intro hw<;>try omega|fail
  all_goals first|exact bN|exact cG h_|skip
 ·rw[if_neg hr]at hR;rw[<-hR];simp only[bq,dy,br];refine aR rj ?_;intro Q aF aG aH;repeat' first|simp (disch:=omega) only[go_sem,aF,aG,aH,hl,g1,g2]|refine aE ?_|refine aD ?_ ?_<;>intro hw<;>try omega|fail
  all_goals first|exact bN|exact cG h_|skip
def Pe(s:aI)(hs:s.length<=2 ^ 17): aP aK 105 [.str s] (.bO [cu (kO s).1,.bool (kO s).2]):=by
 have c1:aP aK 107 [.str s,I 1] (tZ (cn s 1)):=pI s 1 (by decide) (by decide) (by omega);obtain⟨s1,s2,s3⟩:=lR s 1;obtain⟨R,hR⟩:∃ R,kO s=R:=⟨_,rfl⟩;rw[hR];unfold kO at hR;generalize cn s 1=t at *;obtain⟨l,rest,ok⟩:=t;dsimp only at *;have c2:aP aK 12 [.str rest,.int .u8 58] (bX (fG rest 58)):=pH rest 58 (by omega);have hp:=rS rest 58;generalize fG rest 58=P at *;simp only[tZ,bX]at c1 c2;by_cases hb:ok=false\/P.length≠2
 ·rw[if_pos hb]at hR;rw[<-hR];simp only[cu,bX,br];refine aR yM ?_;intro Q aF aG aH;repeat' first|refine aE ?_|refine aD ?_ ?_<;>intro hw<;>try omega|fail
  all_goals first|exact bN|exact cG h_|(exfalso;simp_all;done)|skip
 rw[if_neg hb]at hR;have hok:ok=true:=by cases ok<;>simp_all
 subst hok;have hl:P.length=2:=by omega
 have z0:=mz hp.2 0;have z1:=mz hp.2 1;have g1:P.getD (Int.toNat 1) default=P.getD 1 []:=rfl;have c3:aP aK 12 [.str (P.getD 0 []),.int .u8 124] (bX (fG (P.getD 0 []) 124)):=pH (P.getD 0 []) 124 (by omega);have c4:aP aK 12 [.str (P.getD 1 []),.int .u8 124] (bX (fG (P.getD 1 []) 124)):=pH (P.getD 1 []) 124 (by omega);obtain⟨a,ha⟩:∃ a,P.getD 0 []=a:=⟨_,rfl⟩;rw[ha]at z0 c3 hR;have g0:P.getD 0 default=a:=ha;clear ha;generalize P.getD 1 []=b at *;generalize fG a 124=A at *;generalize fG b 124=B at *;simp only[bX]at c3 c4;rw[<-hR];simp only[cu,bX];refine aR yM ?_;intro Q aF aG aH;repeat' first|simp (disch:=omega) only[go_sem,aF,aG,aH,hl,g0,g1]|refine aE ?_|refine aD ?_ ?_<;>intro hw<;>try omega|fail
 all_goals first|exact bN|exact cG h_|skip
end Go.Proofs.YtcjcnfcedihckaaGreatDoor
namespace Go.AM
def Rel.YT {g : aJ} {w : World} {σ : ae} {k : Nat} {cs cs' : List AV} (h : Rel g w σ) (hk : σ[k]? = some (.cells cs)) (hl : cs.length = cs'.length) (hs : cs'.all AV.scalar = true)
    (hv:∀ i v,VR g w (cs.getD i .undef) v->VR g w (cs'.getD i .undef) v):Rel g w (σ.set k (.cells cs'))/\fg σ g w (σ.set k (.cells cs')) g w:=by
 have hlt:=(aN.1 hk).1
 have live:∀ l,Live (σ.set k (.cells cs')) l->Live σ l:=fun l hl=>by
  rcases kr hl with⟨rfl,_,_⟩|⟨_,h⟩
  ·exact⟨_,hk,rfl⟩
  ·exact h
 refine⟨⟨by simpa using h.len,h.lt,fun l o ho=>?_,fun l l' b h1 h2=>h.inj l l' b (live l h1) (live l' h2),fun l b h1=>h.rX l b (live l h1),h.glob⟩,⟨.refl _ _,Nat.le_refl _,rfl,rfl,rfl,fun _ _ _=>rfl,fun _ _ h=> .inl h,fun b _ ht=>?_⟩⟩
 ·by_cases e:l=k
  ·subst e;rw[List.getElem?_set_self hlt]at ho;injection ho with ho;subst ho;obtain⟨o1,o2,b,vs,o3,o4,o5,o6,o7⟩:=h.ok _ _ hk;exact⟨o1,hs,b,vs,o3,o4,by rw[<-hl];exact o5,fun i hi=>hv i _ (o6 i (by rw[hl];exact hi)),by rw[<-hl];exact o7⟩
  ·rw[List.getElem?_set_ne (Ne.symm e)]at ho;exact h.ok l o ho
 ·obtain⟨l,h1,h2⟩:=ht;exact⟨l,live l h1,h2⟩
def XX(el:El)(l:Nat)(xs:List AV)(a b:AV): Prop:=a=b\/(a = .own el l xs.length 0 xs.length/\b = .aO false el xs)
def cN.SZ {P : Program} {f : FuncId} {σ : ae} {R : Out -> ae -> Prop} {l k : Nat} {T : Option TypeId} {el : El} {xs cs cs' : List AV} (hl : σ[l]? = some (.cy T el xs)) (hk : σ[k]? = some (.cells cs)) (hx : xs ≠ [])
    (hc:cs.length=cs'.length) (hf:∀ i,XX el l xs (cs.getD i .undef) (cs'.getD i .undef)) (h:cN P f [.agg cs'] ((σ.set l .dead).set k (.cells cs')) R):cN P f [.agg cs] σ R:=by
 refine⟨h.1,fun g w vs hR hlen hvs=>?_⟩;have s8:k≠l:=fun e=>by subst e;rw[hl]at hk;cases hk
 obtain⟨lK,oQ,hrow⟩:=hR.ok l _ hl;rcases hrow with⟨hx',_,_⟩|⟨b,bs,hb,hrow,hsz,hle,kj,_⟩
 ·exact absurd hx' hx
 obtain⟨r1,r2⟩:=hR.freeze hl rfl hb
 have key:∀ v,VR g w (.own el l xs.length 0 xs.length) v->VR (g.hY b) w (.aO false el xs) v:=fun v hv=>by
  cases hv with
  | own _ _ _ _ _ _ hO =>
  obtain⟨_,_,A,cap,rfl,h4⟩:=hO;obtain⟨_,h6,h7⟩:=h4 lK.symm;have hxl:0<xs.length:=List.length_pos_iff.2 hx;have hlt:0<g.cap l:=by omega
  have hA:=h7 hlt;rw[hb]at hA;simp only[aS]at hA;subst hA
  have hidx:∀ i c,i<xs.length->c<el.sz->g.off l+i*el.sz+c<bs.size:=fun i c h1 h2=>by
   rw[hsz];have:i*el.sz+el.sz<=g.cap l*el.sz:=by rw[<-cL];exact aX _ (by omega)
   omega
  have hoff:∀ i c,g.off l+0*el.sz+(i*el.sz+c)=g.off l+i*el.sz+c:=fun i c=>by omega
  refine VR.aO (g:=g.hY b) (w:=w) false el xs b (g.off l+0*el.sz) cap (.inr rfl) (fun h=>by cases h) (by omega) (fun i h1=>oQ i h1) (fun i c h1 h2=>?_) (fun i c h1 h2=>?_)
  ·rw[hoff,hrow.cell (hidx i c h1 h2)];rfl
  ·have e1 : dw w ⟨b, g.off l + i * el.sz + c, none⟩ = bs.getD (g.off l + i * el.sz + c) Go.undef := by
    simp only[dw,hrow.cell (hidx i c h1 h2),bu]
   rw[hoff,e1];exact(kj i c h1 h2).mono r2.mono
 have oX:∀ v,VR (g.hY b) w (.own el l xs.length 0 xs.length) v->VR (g.hY b) w (.aO false el xs) v:=fun v hv=>by
  cases hv with
  | own _ _ _ _ _ _ hO=>exact key v (.own _ _ _ _ _ _ hO)
 have seen:∀ i v,VR (g.hY b) w (cs.getD i .undef) v->VR (g.hY b) w (cs'.getD i .undef) v:=fun i v hv=>by
  rcases hf i with e|⟨e1,e2⟩
  ·rw[<-e];exact hv
  ·rw[e2];rw[e1]at hv;exact oX v hv
 obtain⟨_,o2,_⟩:=hR.ok k _ hk
 have hsc:cs'.all AV.scalar=true:=by
  rw[aW];intro a ha;obtain⟨i,hi,rfl⟩:=bC ha;have e0:cs'.getD i .undef=cs'[i]:=by simp[aj,hi]
  rw[<-e0];rcases hf i with e|⟨_,e2⟩
  ·rw[<-e];have hi':i<cs.length:=by omega
   have e1:cs.getD i .undef=cs[i]:=by simp[aj,hi']
   rw[e1];exact aW.1 o2 _ (cQ hi')
  ·rw[e2];rfl
 obtain⟨q1,q2⟩:=r1.YT (k:=k) (cs:=cs) (cs':=cs') (by rw[List.getElem?_set_ne s8.symm];exact hk) hc hsc seen;refine(h.2 (g.hY b) w vs q1 hlen (fun i hi=>?_)).mono ?_
 ·match i,hi with
  | 0, _ =>
    have h0:=(hvs 0 (by simp)).mono r2.mono;simp only[aT]at h0 ⊢;generalize vs.getD 0 Go.undef=v0 at h0 ⊢;cases h0 with
    | agg _ ws hl hs hh =>
      exact .agg cs' ws (by omega) hsc (fun j hj=>seen j _ (hh j (by omega)))
 ·rintro e w' ⟨out,g',σ',a1,a2,a3,a4⟩;exact⟨out,g',σ',a1,(r2.trans q2).trans a2,a3,a4⟩
def Qy {P : Program} {f : FuncId} {σ : ae} {K Kp : AV -> ae -> Prop} {l k : Nat} {T : Option TypeId} {el : El} {xs cs : List AV} (cs' : List AV) (hl : σ[l]? = some (.cy T el xs)) (hk : σ[k]? = some (.cells cs)) (hx : xs ≠ [])
    (hc:cs.length=cs'.length) (hf:∀ i,XX el l xs (cs.getD i .undef) (cs'.getD i .undef)) (h:pP P f [.agg cs'] ((σ.set l .dead).set k (.cells cs')) (.mk:Tg (K,Kp))):pP P f [.agg cs] σ (.mk:Tg (K,Kp)):=cN.SZ hl hk hx hc hf h
