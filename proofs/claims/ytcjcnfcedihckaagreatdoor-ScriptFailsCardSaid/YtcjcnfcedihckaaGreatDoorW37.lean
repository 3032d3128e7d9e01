/- Part. -/
import Derived.Test.YtcjcnfcedihckaaGreatDoorW36
set_option linter.all false
set_option maxHeartbeats 8000000
namespace Go.Proofs.YtcjcnfcedihckaaGreatDoor
open Go.AM
set_option maxRecDepth 4000
def JX(c:UInt8)(s:aI): (cD c s).1.length<=s.length/\(cD c s).2.1.length<=s.length:=by
 induction s with
 | nil=>exact⟨Nat.le_refl _,Nat.le_refl _⟩
 | cons b s ih =>
   rw[cD];split
   ·simp
   ·simp;omega
def WZ: ∀(k:Nat) (s:aI),∀ z ∈ pieces k s,z.length<=s.length:=by
 intro k
 induction k with
 | zero=>intro s z hz;obtain rfl:=bR.1 hz;exact Nat.le_refl _
 | succ k ih =>
   intro s z hz;rw[pieces]at hz;split at hz
   ·have:=JX 32 s;rcases List.mem_cons.1 hz with rfl|hz
    ·exact this.1
    ·have:=ih _ z hz;omega
   ·obtain rfl:=bR.1 hz;exact Nat.le_refl _
def mN{l:List aI}{n:Nat}(h:∀ z ∈ l,z.length<=n)(k:Nat): (l.getD k []).length<=n:=by
 rw[aj];cases hq:l[k]? with
 | none=>simp
 | some z=>exact h z (gw hq)
def me(s:aI)(n:Nat): ((cn s n).2.2=true->(cn s n).1.length=n)/\(∀ z ∈ (cn s n).1,z.length<=s.length)/\(cn s n).2.1.length<=s.length:=by
 have h:=WZ n s;have hg:=mN h n;unfold cn;split
 ·exact⟨fun h=>by simp at h,fun z hz=>by simp at hz,bJ _⟩
 split
 ·rename_i e;exact⟨fun _=>e,h,bJ _⟩
 ·exact⟨fun _=>by simp;omega,fun z hz=>h z (dn hz),hg⟩
def uH(t:List aI × aI × Bool): AV:= .bU [bM t.1,.str t.2.1,.bool t.2.2]
def Y2{l:List aI}{k:Nat}(h:k<l.length): (l.map bB).getD k .undef = .str (l.getD k []):=by
 simp[aj,h,bB]
def JY(s:aI)(n:Nat)(hn:1<=n)(hn2:n<=2 ^ 20)(hs:s.length<=2 ^ 40): aM aK 150 [.str s,.str [32],I n] (bM (pieces (n-1) s)):=by
 have c:=Gg s n hn hn2 hs;generalize pieces (n-1) s=P at *;simp only[bM]at c ⊢;refine aR Ek ?_;intro Q aC aD aE;repeat' first|refine aG ?_|refine eU c ?_|refine aF ?_ ?_<;>intro hw<;>try omega|fail
 all_goals first|exact bK|exact fg gM|exact aS rfl (by simp)|skip
def qb(s:aI)(n:Nat)(hn:1<=n)(hn2:n<=2 ^ 10)(hs:s.length<=2 ^ 40): aM aK 107 [.str s,I n] (uH (cn s n)):=by
 have c:=JY s (n+1) (by omega) (by omega) hs;have e:((n+1:Nat):Int)=(n:Int)+1:=by omega
 rw[e,Nat.add_sub_cancel]at c;have hl:=(T4 n s).2;unfold cn;generalize pieces n s=P at *;simp only[bM]at c;by_cases h1:P.length<n
 ·rw[if_pos h1];simp only[uH,bM];refine aR s_ ?_;intro Q aC aD aE;repeat' first|refine aG ?_|refine eU c ?_|refine aF ?_ ?_<;>intro hw<;>try omega|fail
  all_goals first|exact bK|exact cK (bS.cons (View.au _) (bS.refl rfl))|skip
 rw[if_neg h1];by_cases h2:P.length=n
 ·rw[if_pos h2];simp only[uH,bM];refine aR s_ ?_;intro Q aC aD aE;repeat' first|refine aG ?_|refine eU c ?_|refine aF ?_ ?_<;>intro hw<;>try omega|fail
  all_goals first|exact bK|exact cK gM|skip
 rw[if_neg h2];have hg:=Y2 (l:=P) (k:=n) (by omega);have hmt:(P.map bB).take n=(P.take n).map bB:=by rw[List.map_take]
 have hzz:∀ z:aI,decide (z≠[]) = !(z==[]):=fun z=>by cases z<;>rfl
 rw[hzz];generalize P.getD n []=z at *;simp only[uH,bM];refine aR s_ ?_;intro Q aC aD aE;repeat' first|simp (disch:=omega) only[go_sem,aC,aD,aE,hg,hmt]|refine aG ?_|refine eU c ?_|refine aF ?_ ?_<;>intro hw<;>try omega|fail
 all_goals first|exact bK|exact cj rfl (by simp only[AV.cB,AV.dF,tq,fW])|skip
def LH(c:ef): AV.cB (iL c)=true:=by simp[iL,AV.cB]
def DB(k:Int)(s:aI)(hs:s.length<=2 ^ 17): aM aK 109 [I k,.str s] (.bU [dU (kJ k s).1,.bool (kJ k s).2]):=by
 have c1:aM aK 107 [.str s,I 3] (uH (cn s 3)):=qb s 3 (by decide) (by decide) (by omega);obtain⟨s1,s2,s3⟩:=me s 3;have z2:=mN s2 2;have z1:=mN s2 1;obtain⟨R,hR⟩:∃ R,kJ k s=R:=⟨_,rfl⟩;rw[hR];unfold kJ at hR;generalize cn s 3=t at *;obtain⟨l,rest,ok⟩:=t;dsimp only at *;have c2:=vO (l.getD 2 []) (by omega);have c3:=BG rest (by omega);simp only[uH,bM]at c1;by_cases hb:ok=false\/k=3/\rest≠[]
 ·rw[if_pos hb]at hR;rw[<-hR];simp only[dU,iL,eV,iD,bf];refine aR tf ?_;intro Q aC aD aE;repeat' first|refine aG ?_|refine aF ?_ ?_<;>intro hw<;>try omega|fail
  all_goals first|exact bK|exact cK gM|skip
 rw[if_neg hb]at hR;have hok:ok=true:=by cases ok<;>simp_all
 subst hok;have hl:=s1 rfl;have g1:l.getD (Int.toNat 1) default=l.getD 1 []:=rfl;have g2:l.getD (Int.toNat 2) default=l.getD 2 []:=rfl;generalize l.getD 1 []=nm at *;generalize l.getD 2 []=w2 at *;generalize gk w2=m at *;obtain⟨m,mb⟩:=m;dsimp only at *;by_cases hm:mb=true/\rest≠[]
 ·rw[if_pos hm]at hR;obtain⟨rfl,hr⟩:=hm;generalize kO rest=V at *;obtain⟨vl,vb⟩:=V;dsimp only at *;simp only[dh]at c3;rw[<-hR];simp only[dU,iL,eV,iD,bf];refine aR tf ?_;intro Q aC aD aE;repeat' first|simp (disch:=omega) only[go_sem,aC,aD,aE,hl,g1,g2]|refine aG ?_|refine aF ?_ ?_<;>intro hw<;>try omega|fail
  all_goals first|exact bK|exact cK gM|skip
 ·rw[if_neg hm]at hR;rw[<-hR];simp only[dU,iL,eV,iD,bf];refine aR tf ?_;intro Q aC aD aE;repeat' first|simp (disch:=omega) only[go_sem,aC,aD,aE,hl,g1,g2]|refine aG ?_|refine aF ?_ ?_<;>intro hw<;>try omega|fail
  all_goals first|exact bK|exact cK gM|(exfalso;simp_all;done)|skip
def BH(k:Int)(s:aI)(n:Nat)(hn:n=1\/n=2)(hs:s.length<=2 ^ 17): aM aK 110 [I k,.str s,I n] (.bU [dU (j3 k s n).1,.bool (j3 k s n).2]):=by
 have c1:=qb s (n+1) (by omega) (by omega) (by omega);have e:((n+1:Nat):Int)=(n:Int)+1:=by omega
 rw[e]at c1;obtain⟨s1,s2,s3⟩:=me s (n+1);have z2:=mN s2 2;have z1:=mN s2 1;obtain⟨R,hR⟩:∃ R,j3 k s n=R:=⟨_,rfl⟩;rw[hR];unfold j3 at hR;generalize cn s (n+1)=t at *;obtain⟨l,rest,ok⟩:=t;dsimp only at *;have c2:=vO (l.getD 1 []) (by omega);have c3:=vO (l.getD 2 []) (by omega);simp only[uH,bM]at c1;by_cases hb:ok=false\/rest≠[]
 ·rw[if_pos hb]at hR;rw[<-hR];simp only[dU,iL,eV,iD,bf];refine aR rS ?_;intro Q aC aD aE;repeat' first|refine aG ?_|refine aF ?_ ?_<;>intro hw<;>try omega|fail
  all_goals first|exact bK|exact cK gM|skip
 rw[if_neg hb]at hR;have hok:ok=true:=by cases ok<;>simp_all
 have Z0:rest=[]:=by simp_all
 subst hok;subst Z0;have hl:=s1 rfl;have g1:l.getD (Int.toNat 1) default=l.getD 1 []:=rfl;have g2:l.getD (Int.toNat 2) default=l.getD 2 []:=rfl;generalize l.getD 1 []=w1 at *;generalize l.getD 2 []=w2 at *;generalize gk w1=m at *;obtain⟨m,mb⟩:=m;generalize gk w2=m' at *;obtain⟨m',mb'⟩:=m';dsimp only at *;by_cases hm:mb=true/\n=2
 ·rw[if_pos hm]at hR;obtain⟨rfl,rfl⟩:=hm;rw[<-hR];simp only[dU,iL,eV,iD,bf];refine aR rS ?_;intro Q aC aD aE;repeat' first|simp (disch:=omega) only[go_sem,aC,aD,aE,hl,g1,g2]|refine aG ?_|refine aF ?_ ?_<;>intro hw<;>try omega|fail
  all_goals first|exact bK|exact cK gM|skip
 ·rw[if_neg hm]at hR;rw[<-hR];simp only[dU,iL,eV,iD,bf];refine aR rS ?_;intro Q aC aD aE;repeat' first|simp (disch:=omega) only[go_sem,aC,aD,aE,hl,g1]|refine aG ?_|refine aF ?_ ?_<;>intro hw<;>try omega|fail
  all_goals first|exact bK|exact cK gM|(exfalso;simp_all;done)|skip
def Ii(s:aI): ef × Bool:=if s=TN then({ eV with kind:=4 },true)else if s=OI then({ eV with kind:=7 },true)
 else if s=TO then({ eV with kind:=8 },true)else if s=TP then({ eV with kind:=9 },true)else (eV,false)
def Y3{s:aI}{k:Nat}(h1:1<=k)(h9:k<=9)(hs:s≠[])(h:kI k=s): Ii s=({ eV with kind:=k },true):=by
 subst h;have:k=1\/k=2\/k=3\/k=4\/k=5\/k=6\/k=7\/k=8\/k=9:=by omega
 rcases this with rfl|rfl|rfl|rfl|rfl|rfl|rfl|rfl|rfl;all_goals first|rfl|exact absurd rfl hs
def Y4{s:aI}(h:∀ k:Nat,1<=k->k<=9->s≠[]->kI k≠s): Ii s=(eV,false):=by
 have a:=h 4 (by decide) (by decide);have b:=h 7 (by decide) (by decide);have c:=h 8 (by decide) (by decide);have d:=h 9 (by decide) (by decide);unfold Ii;rw[if_neg (fun e=>a (by rw[e];decide) e.symm),if_neg (fun e=>b (by rw[e];decide) e.symm),if_neg (fun e=>c (by rw[e];decide) e.symm),if_neg (fun e=>d (by rw[e];decide) e.symm)]
def T7(s:aI)(hs:s.length<=2 ^ 17): aM aK 64 [.str s] (.bU [dU (lJ s).1,.bool (lJ s).2]):=by
 have c1:=nG s 32 (by omega);have c2:=DB 2 s hs;have c3:=DB 3 s hs;have c4:aM aK 110 [I 5,.str s,I 2] _:=BH 5 s 2 (.inr rfl) hs;have c5:aM aK 110 [I 6,.str s,I 1] _:=BH 6 s 1 (.inl rfl) hs
 have hone:lJ s=if(cD 32 s).1=iW then kJ 2 s else if(cD 32 s).1=jX then kJ 3 s
  else if(cD 32 s).1=qO then j3 5 s 2 else if(cD 32 s).1=jz then j3 6 s 1 else Ii s:=rfl
 have th:=fun k h1 h9 hs h=>Y3 (s:=s) (k:=k) h1 h9 hs h;have tn:=Y4 (s:=s);rw[hone];clear hone;generalize cD 32 s=t at *;obtain⟨w,x,y⟩:=t;generalize kJ 2 s=N2 at *;obtain⟨d2,b2⟩:=N2;generalize kJ 3 s=N3 at *;obtain⟨d3,b3⟩:=N3;generalize j3 5 s 2=N5 at *;obtain⟨d5,b5⟩:=N5;generalize j3 6 s 1=N6 at *;obtain⟨d6,b6⟩:=N6;generalize Ii s=T at *;dsimp only at *;simp only[vN,dU,iL]at c1 c2 c3 c4 c5;by_cases h2:w=iW
 ·rw[if_pos h2];have h2':w=[100,101,99,105,100,101]:=h2;clear h2 th tn;simp only[dU,iL];refine aR oO ?_;intro Q aC aD aE;repeat' first|refine aG ?_|refine aF ?_ ?_<;>intro hw<;>try omega|fail
  all_goals first|(exfalso;contradiction)|exact cK gM
 rw[if_neg h2];have h2':¬ w=[100,101,99,105,100,101]:=h2;by_cases h3:w=jX
 ·rw[if_pos h3];have Rs:w=[118,101,114,115,105,111,110]:=h3;clear h2 h3 th tn;simp only[dU,iL];refine aR oO ?_;intro Q aC aD aE;repeat' first|refine aG ?_|refine aF ?_ ?_<;>intro hw<;>try omega|fail
  all_goals first|(exfalso;contradiction)|exact cK gM
 rw[if_neg h3];have Rs:¬ w=[118,101,114,115,105,111,110]:=h3;by_cases h4:w=qO
 ·rw[if_pos h4];have UB:w=[108,111,103]:=h4;clear h2 h3 h4 th tn;simp only[dU,iL];refine aR oO ?_;intro Q aC aD aE;repeat' first|refine aG ?_|refine aF ?_ ?_<;>intro hw<;>try omega|fail
  all_goals first|(exfalso;contradiction)|exact cK gM
 rw[if_neg h4];have UB:¬ w=[108,111,103]:=h4;by_cases h5:w=jz
 ·rw[if_pos h5];have La:w=[99,111,109,112,97,99,116]:=h5;clear h2 h3 h4 h5 th tn;simp only[dU,iL];refine aR oO ?_;intro Q aC aD aE;repeat' first|refine aG ?_|refine aF ?_ ?_<;>intro hw<;>try omega|fail
  all_goals first|(exfalso;contradiction)|exact cK gM
 rw[if_neg h5];have La:¬ w=[99,111,109,112,97,99,116]:=h5;clear h2 h3 h4 h5 c2 c3 c4 c5;obtain⟨E,hE⟩:∃ E,(AV.bU [dU T.1,.bool T.2])=E:=⟨_,rfl⟩;have hp:AV.cB [E]=true:=by rw[<-hE];simp[AV.cB,AV.dF]
 rw[hE];refine aR oO ?_;intro Q aC aD aE;repeat' first|refine aG ?_|refine aF ?_ ?_<;>intro hw<;>try omega|fail
 all_goals first|(exfalso;contradiction)|skip
 with_reducible refine bX [3,7,39,40,41,42,43,44,45,46,47,48,49,50,51,52] (fun q:Nat=>[(7,I ((q:Int)+1))]) (fun _=>[.cells [I 0,.str [],.au,.au,I 0,I 0,.au,.str [],I 0,.au,I 0,I 0]]) (fun q=>q<=9/\ ∀ k:Nat,1<=k->k<=q->s≠[]->kI k≠s) (fun q=>10-q) (0) ?_ ?_ ?_ ?_
 ·exact⟨by omega,fun k h1 h2=>by omega⟩
 ·rfl
 ·exact at_
 rintro q r ⟨g1,g2⟩;by_cases hq:q<9
 ·have c6:=Dy ((q:Int)+1);have hit:=fun hs h=>th (q+1) (by omega) (by omega) hs h;have e:((q+1:Nat):Int)=(q:Int)+1:=by omega
  have hnx:(s≠[]->kI ((q:Int)+1)≠s)-> ∀ k:Nat,1<=k->k<=q+1->s≠[]->kI k≠s:=fun h k h1 h2=>by
   by_cases hk:k=q+1
   ·subst hk;rw[e];exact h
   ·exact g2 k h1 (by omega)
  rw[e]at hit;generalize kI ((q:Int)+1)=z at *;repeat' first|refine aG ?_|refine aF ?_ ?_<;>intro hw<;>try omega|fail
  all_goals first
   |(exfalso;contradiction)
   |(rw[<-hE,hit (by assumption) (by assumption)];exact cK (bS.cons (F9 (c:= { eV with kind:=(q:Int)+1 }) (.au _) (.au _) (.au _) (.au _)) (bS.refl rfl)))
   | (refine ⟨q + 1, ?_, ?_, by first | rfl | (simp [go_sem]; done), da, at_⟩ <;> (try dsimp only)
      ·exact⟨by omega,hnx (fun h1 h2=>by simp_all)⟩
      ·omega)
   | skip
 ·have tn:=tn (fun k h1 h9=>g2 k h1 (by omega));repeat' first|refine aG ?_|refine aF ?_ ?_<;>intro hw<;>try omega|fail
  all_goals first|(rw[<-hE,tn];exact cK (bS.cons (F9 (c:=eV) (.au _) (.au _) (.au _) (.au _)) (bS.refl rfl)))|skip
def BI(s:aI)(hs:s.length<=2 ^ 17): aM aK 103 [.str s] (.bU [bu (kT s).1,.bool (kT s).2]):=by
 have c1:aM aK 107 [.str s,I 3] (uH (cn s 3)):=qb s 3 (by decide) (by decide) (by omega);obtain⟨s1,s2,s3⟩:=me s 3;obtain⟨R,hR⟩:∃ R,kT s=R:=⟨_,rfl⟩;rw[hR];unfold kT at hR;generalize cn s 3=t at *;obtain⟨l,rest,ok⟩:=t;dsimp only at *;have c2:=Dx;have c3:=BG rest (by omega);simp only[uH,bM]at c1;cases ok with
 | false =>
   rw[if_pos rfl]at hR;rw[<-hR];simp only[bu,dh,bf];refine aR rR ?_;intro Q aC aD aE;repeat' first|refine aG ?_|refine aF ?_ ?_<;>intro hw<;>try omega|fail
   all_goals first|exact bK|exact cK gM|skip
 | true =>
 rw[if_neg (by decide)]at hR;have hl:=s1 rfl;have g1:l.getD (Int.toNat 1) default=l.getD 1 []:=rfl;have g2:l.getD (Int.toNat 2) default=l.getD 2 []:=rfl;have c4:=pn pY (l.getD 2 []) (by decide);generalize l.getD 1 []=nm at *;generalize l.getD 2 []=w2 at *;generalize fI (fun x=>x==w2) pY=kd at *;simp only[bM]at c2 c4;by_cases hr:rest≠[]
 ·rw[if_pos hr]at hR;generalize kO rest=V at *;obtain⟨vl,vb⟩:=V;dsimp only at *;simp only[dh]at c3;rw[<-hR];simp only[bu,dh];refine aR rR ?_;intro Q aC aD aE;cases vb
  all_goals
   repeat' first|simp (disch:=omega) only[go_sem,aC,aD,aE,hl,g1,g2]|refine aG ?_|refine aF ?_ ?_<;>intro hw<;>try omega|fail
  all_goals first|exact bK|exact cK gM|skip
 ·rw[if_neg hr]at hR;rw[<-hR];simp only[bu,dh,bf];refine aR rR ?_;intro Q aC aD aE;repeat' first|simp (disch:=omega) only[go_sem,aC,aD,aE,hl,g1,g2]|refine aG ?_|refine aF ?_ ?_<;>intro hw<;>try omega|fail
  all_goals first|exact bK|exact cK gM|skip
def Qw(s:aI)(hs:s.length<=2 ^ 17): aM aK 105 [.str s] (.bU [cu (ld s).1,.bool (ld s).2]):=by
 have c1:aM aK 107 [.str s,I 1] (uH (cn s 1)):=qb s 1 (by decide) (by decide) (by omega);obtain⟨s1,s2,s3⟩:=me s 1;obtain⟨R,hR⟩:∃ R,ld s=R:=⟨_,rfl⟩;rw[hR];unfold ld at hR;generalize cn s 1=t at *;obtain⟨l,rest,ok⟩:=t;dsimp only at *;have c2:aM aK 12 [.str rest,.int .u8 58] (bM (fO rest 58)):=p_ rest 58 (by omega);have hp:=sG rest 58;generalize fO rest 58=P at *;simp only[uH,bM]at c1 c2;by_cases hb:ok=false\/P.length≠2
 ·rw[if_pos hb]at hR;rw[<-hR];simp only[cu,bM,bf];refine aR zg ?_;intro Q aC aD aE;repeat' first|refine aG ?_|refine aF ?_ ?_<;>intro hw<;>try omega|fail
  all_goals first|exact bK|exact cK gM|(exfalso;simp_all;done)|skip
 rw[if_neg hb]at hR;have hok:ok=true:=by cases ok<;>simp_all
 subst hok;have hl:P.length=2:=by omega
 have z0:=mN hp.2 0;have z1:=mN hp.2 1;have g1:P.getD (Int.toNat 1) default=P.getD 1 []:=rfl;have c3:aM aK 12 [.str (P.getD 0 []),.int .u8 124] (bM (fO (P.getD 0 []) 124)):=p_ (P.getD 0 []) 124 (by omega);have c4:aM aK 12 [.str (P.getD 1 []),.int .u8 124] (bM (fO (P.getD 1 []) 124)):=p_ (P.getD 1 []) 124 (by omega);obtain⟨a,ha⟩:∃ a,P.getD 0 []=a:=⟨_,rfl⟩;rw[ha]at z0 c3 hR;have g0:P.getD 0 default=a:=ha;clear ha;generalize P.getD 1 []=b at *;generalize fO a 124=A at *;generalize fO b 124=B at *;simp only[bM]at c3 c4;rw[<-hR];simp only[cu,bM];refine aR zg ?_;intro Q aC aD aE;repeat' first|simp (disch:=omega) only[go_sem,aC,aD,aE,hl,g0,g1]|refine aG ?_|refine aF ?_ ?_<;>intro hw<;>try omega|fail
 all_goals first|exact bK|exact cK gM|skip
end Go.Proofs.YtcjcnfcedihckaaGreatDoor
namespace Go.AM
def Rel.Z4 {g : aJ} {w : World} {σ : ae} {k : Nat} {cs cs' : List AV} (h : Rel g w σ) (hk : σ[k]? = some (.cells cs)) (hl : cs.length = cs'.length) (hs : cs'.all AV.scalar = true)
    (hv:∀ i v,VR g w (cs.getD i .undef) v->VR g w (cs'.getD i .undef) v):Rel g w (σ.set k (.cells cs'))/\fC σ g w (σ.set k (.cells cs')) g w:=by
 have hlt:=(aP.1 hk).1
 have live:∀ l,Live (σ.set k (.cells cs')) l->Live σ l:=fun l hl=>by
  rcases kM hl with⟨rfl,_,_⟩|⟨_,h⟩
  ·exact⟨_,hk,rfl⟩
  ·exact h
 refine⟨⟨by simpa using h.len,h.lt,fun l o ho=>?_,fun l l' b h1 h2=>h.inj l l' b (live l h1) (live l' h2),fun l b h1=>h.sL l b (live l h1),h.glob⟩,⟨.refl _ _,Nat.le_refl _,rfl,rfl,rfl,fun _ _ _=>rfl,fun _ _ h=> .inl h,fun b _ ht=>?_⟩⟩
 ·by_cases e:l=k
  ·subst e;rw[List.getElem?_set_self hlt]at ho;injection ho with ho;subst ho;obtain⟨o1,o2,b,vs,o3,o4,o5,o6,o7⟩:=h.ok _ _ hk;exact⟨o1,hs,b,vs,o3,o4,by rw[<-hl];exact o5,fun i hi=>hv i _ (o6 i (by rw[hl];exact hi)),by rw[<-hl];exact o7⟩
  ·rw[List.getElem?_set_ne (Ne.symm e)]at ho;exact h.ok l o ho
 ·obtain⟨l,h1,h2⟩:=ht;exact⟨l,live l h1,h2⟩
def Y5(el:El)(l:Nat)(xs:List AV)(a b:AV): Prop:=a=b\/(a = .own el l xs.length 0 xs.length/\b = .aO false el xs)
def cR.Uk {P : Program} {f : FuncId} {σ : ae} {R : Out -> ae -> Prop} {l k : Nat} {T : Option TypeId} {el : El} {xs cs cs' : List AV} (hl : σ[l]? = some (.cz T el xs)) (hk : σ[k]? = some (.cells cs)) (hx : xs ≠ [])
    (hc:cs.length=cs'.length) (hf:∀ i,Y5 el l xs (cs.getD i .undef) (cs'.getD i .undef)) (h:cR P f [.agg cs'] ((σ.set l .dead).set k (.cells cs')) R):cR P f [.agg cs] σ R:=by
 refine⟨h.1,fun g w vs hR hlen hvs=>?_⟩;have oL:k≠l:=fun e=>by subst e;rw[hl]at hk;cases hk
 obtain⟨lg,pB,hrow⟩:=hR.ok l _ hl;rcases hrow with⟨hx',_,_⟩|⟨b,bs,hb,hrow,hsz,hle,kr,_⟩
 ·exact absurd hx' hx
 obtain⟨r1,r2⟩:=hR.freeze hl rfl hb
 have key:∀ v,VR g w (.own el l xs.length 0 xs.length) v->VR (g.iB b) w (.aO false el xs) v:=fun v hv=>by
  cases hv with
  | own _ _ _ _ _ _ hO =>
  obtain⟨_,_,A,cap,rfl,h4⟩:=hO;obtain⟨_,h6,h7⟩:=h4 lg.symm;have hxl:0<xs.length:=List.length_pos_iff.2 hx;have hlt:0<g.cap l:=by omega
  have hA:=h7 hlt;rw[hb]at hA;simp only[aT]at hA;subst hA
  have hidx:∀ i c,i<xs.length->c<el.sz->g.off l+i*el.sz+c<bs.size:=fun i c h1 h2=>by
   rw[hsz];have:i*el.sz+el.sz<=g.cap l*el.sz:=by rw[<-cM];exact aY _ (by omega)
   omega
  have hoff:∀ i c,g.off l+0*el.sz+(i*el.sz+c)=g.off l+i*el.sz+c:=fun i c=>by omega
  refine VR.aO (g:=g.iB b) (w:=w) false el xs b (g.off l+0*el.sz) cap (.inr rfl) (fun h=>by cases h) (by omega) (fun i h1=>pB i h1) (fun i c h1 h2=>?_) (fun i c h1 h2=>?_)
  ·rw[hoff,hrow.cell (hidx i c h1 h2)];rfl
  ·have e1 : dD w ⟨b, g.off l + i * el.sz + c, none⟩ = bs.getD (g.off l + i * el.sz + c) Go.undef := by
    simp only[dD,hrow.cell (hidx i c h1 h2),bA]
   rw[hoff,e1];exact(kr i c h1 h2).mono r2.mono
 have pJ:∀ v,VR (g.iB b) w (.own el l xs.length 0 xs.length) v->VR (g.iB b) w (.aO false el xs) v:=fun v hv=>by
  cases hv with
  | own _ _ _ _ _ _ hO=>exact key v (.own _ _ _ _ _ _ hO)
 have seen:∀ i v,VR (g.iB b) w (cs.getD i .undef) v->VR (g.iB b) w (cs'.getD i .undef) v:=fun i v hv=>by
  rcases hf i with e|⟨e1,e2⟩
  ·rw[<-e];exact hv
  ·rw[e2];rw[e1]at hv;exact pJ v hv
 obtain⟨_,o2,_⟩:=hR.ok k _ hk
 have hsc:cs'.all AV.scalar=true:=by
  rw[aX];intro a ha;obtain⟨i,hi,rfl⟩:=bz ha;have e0:cs'.getD i .undef=cs'[i]:=by simp[aj,hi]
  rw[<-e0];rcases hf i with e|⟨_,e2⟩
  ·rw[<-e];have hi':i<cs.length:=by omega
   have e1:cs.getD i .undef=cs[i]:=by simp[aj,hi']
   rw[e1];exact aX.1 o2 _ (cU hi')
  ·rw[e2];rfl
 obtain⟨q1,q2⟩:=r1.Z4 (k:=k) (cs:=cs) (cs':=cs') (by rw[List.getElem?_set_ne oL.symm];exact hk) hc hsc seen;refine(h.2 (g.iB b) w vs q1 hlen (fun i hi=>?_)).mono ?_
 ·match i,hi with
  | 0, _ =>
    have h0:=(hvs 0 (by simp)).mono r2.mono;simp only[aV]at h0 ⊢;generalize vs.getD 0 Go.undef=v0 at h0 ⊢;cases h0 with
    | agg _ ws hl hs hh =>
      exact .agg cs' ws (by omega) hsc (fun j hj=>seen j _ (hh j (by omega)))
 ·rintro e w' ⟨out,g',σ',a1,a2,a3,a4⟩;exact⟨out,g',σ',a1,(r2.trans q2).trans a2,a3,a4⟩
def RO {P : Program} {f : FuncId} {σ : ae} {K Kp : AV -> ae -> Prop} {l k : Nat} {T : Option TypeId} {el : El} {xs cs : List AV} (cs' : List AV) (hl : σ[l]? = some (.cz T el xs)) (hk : σ[k]? = some (.cells cs)) (hx : xs ≠ [])
    (hc:cs.length=cs'.length) (hf:∀ i,Y5 el l xs (cs.getD i .undef) (cs'.getD i .undef)) (h:qj P f [.agg cs'] ((σ.set l .dead).set k (.cells cs')) (.mk:Tg (K,Kp))):qj P f [.agg cs] σ (.mk:Tg (K,Kp)):=cR.Uk hl hk hx hc hf h
end Go.AM
namespace Go.Proofs.YtcjcnfcedihckaaGreatDoor
open Go.AM
set_option maxRecDepth 4000
@[go_sem] def abC {P:Program} {el:El} {x:AV} {i:Nat} {σ : ae} {K Kp:AV->ae->Prop}:d_ P (.qd (.c (.dY el x i))) σ (.mk:Tg (K,Kp))=K (.dY el x i) σ:=_root_.id rfl
def yH(o:AV)(n:Int)(t:Table): AV:= .dY ⟨true,8⟩ (.agg [o,I n,.str t.name,cH t.ins,cH t.outs,I t.aL,I t.agg,eA t.rules]) 0
def RP{o:AV}(ho:o.dF=true)(n:Int)(t:Table): (yH o n t).dF=true:=by
 simp[yH,AV.dF,AV.cB,ho]
def RQ{t:Table}(h:j8 t): j8 (ju t):=by
 unfold ju;split
 ·obtain⟨h1,h2,h3,h4,h5⟩:=h;refine⟨h1,h2,⟨by simp,fun c hc=>?_⟩,h4,h5⟩;obtain rfl:=bR.1 hc;refine⟨by simp,?_,?_⟩
  ·dsimp only;split<;>simp
  ·dsimp only;split
   ·intro v hv;obtain rfl:=bR.1 hv;exact⟨⟨by decide,by decide⟩,by simp⟩
   ·intro v hv;cases hv
 ·exact h
def Mz(o:AV)(ho:o.dF=true)(n:Int)(t:Table)(h:j8 t): aM aK 63 [yH o n t] (.bool (ei t)):=by
 obtain⟨E,hE⟩:∃ E,ei t=E:=⟨_,rfl⟩;rw[hE];unfold ei at hE;have Ev:=h.2.1.1;have Ht:=h.2.2.1.1;have C7:=h.2.2.2.1;have JZ:AV.cB [yH o n t]=true:=by simp only[AV.cB,RP ho,fW]
 by_cases hi:t.ins.length=0
 ·rw[if_pos hi]at hE;refine aM.DX (j9.go ?_) JZ;unfold eY;intro Q aC aD aE;simp only[yH,cH,eA];repeat' first|refine aG ?_|refine aF ?_ ?_<;>intro hw<;>try omega|fail
  all_goals first|exact bK|(refine aS ?_ rfl;rw[<-hE];refine congrArg AV.bool ?_;clear hE;rw[a_];simp_all;done)|skip
 rw[if_neg hi]at hE;have ok:=RQ h;have c1:=Dd (ju t) ok;have c2:=y2 (fB (ju t)).1 (ju t) (Oy ok) (zE ok)
 have c3:iF (fB (ju t)).1 (ju t)=true->aM aK 36 [dS (fB (ju t)).1] (eB (j0 (fB (ju t)).1)):=fun hu=>by
  rw[tK hu];exact Dk _ ok
 by_cases hz:t.outs.length=0
 ·have hf:ju t=⟨t.name,t.ins,oG t.aL,t.aL,t.agg,t.rules⟩:=by unfold ju;rw[if_pos hz];rfl
  rw[hf]at c1 c2 c3 hE;obtain⟨C,hC⟩:∃ C,fB ⟨t.name,t.ins,oG t.aL,t.aL,t.agg,t.rules⟩=C:=⟨_,rfl⟩;rw[hC]at c1 c2 c3 hE;obtain⟨C,m1,m2,e⟩:=C;dsimp only at c1 c2 c3 hE;generalize iF C ⟨t.name,t.ins,oG t.aL,t.aL,t.agg,t.rules⟩=b at *;generalize j0 C=B at *;obtain⟨bs,be⟩:=B;dsimp only at c3 hE;by_cases hp:t.aL=3
  ·have hout:(oG t.aL).map bu=[.agg [.str [111],I 1,.aO false EV [.agg [I 1,I 0,.str []]]]]:=by unfold oG;rw[if_pos hp];simp[bu,dh,fD]
   simp only[Ru,eB,dS,gQ,cH,eA,hout]at c1 c2 c3;refine aM.DX (j9.go ?_) JZ;unfold eY;intro Q aC aD aE;simp only[yH,cH,eA];repeat' first|refine aG ?_|refine aF ?_ ?_<;>intro hw<;>try omega|fail
   all_goals first|(exfalso;omega)|skip
   refine RO (l:=1) (k:=0) (T:=none) (el:=EC) (xs:=[.agg [.str [111],.int .i64 1,.aO true EV [.agg [.int .i64 1,.int .i64 0,.str []]]]]) [.str t.name,.aO false EC (t.ins.map bu),.aO false EC [.agg [.str [111],.int .i64 1,.aO true EV [.agg [.int .i64 1,.int .i64 0,.str []]]]],I t.aL,I t.agg,.aO false ER (t.rules.map cu)] rfl rfl (by simp) rfl (fun i=>by match i with|0=>exact .inl rfl|1=>exact .inl rfl|2=>exact .inr ⟨rfl,rfl⟩|3=>exact .inl rfl|4=>exact .inl rfl|5=>exact .inl rfl|n+6=>exact .inl rfl) ?_;cases b with
   | false =>
     repeat' first|refine aG ?_|refine ye c1 ?_|refine ye c2 ?_|refine aF ?_ ?_<;>intro hw<;>try omega|fail
     all_goals first|exact bK|(refine aS ?_ rfl;rw[<-hE];refine congrArg AV.bool ?_;clear hE;rw[a_];simp_all;done)|skip
   | true =>
     have c3:=c3 rfl;repeat' first|refine aG ?_|refine ye c1 ?_|refine ye c2 ?_|refine aF ?_ ?_<;>intro hw<;>try omega|fail
     all_goals first|exact bK|(refine aS ?_ rfl;rw[<-hE];refine congrArg AV.bool ?_;clear hE;rw[a_];simp_all;done)|skip
  ·have hout:(oG t.aL).map bu=[.agg [.str [111],I 1,.aO false EV []]]:=by unfold oG;rw[if_neg hp];simp[bu,dh]
   simp only[Ru,eB,dS,gQ,cH,eA,hout]at c1 c2 c3;refine aM.DX (j9.go ?_) JZ;unfold eY;intro Q aC aD aE;simp only[yH,cH,eA];repeat' first|refine aG ?_|refine aF ?_ ?_<;>intro hw<;>try omega|fail
   all_goals first|(exfalso;omega)|skip
   refine RO (l:=1) (k:=0) (T:=none) (el:=EC) (xs:=[.agg [.str [111],.int .i64 1,.au]]) [.str t.name,.aO false EC (t.ins.map bu),.aO false EC [.agg [.str [111],.int .i64 1,.au]],I t.aL,I t.agg,.aO false ER (t.rules.map cu)] rfl rfl (by simp) rfl (fun i=>by match i with|0=>exact .inl rfl|1=>exact .inl rfl|2=>exact .inr ⟨rfl,rfl⟩|3=>exact .inl rfl|4=>exact .inl rfl|5=>exact .inl rfl|n+6=>exact .inl rfl) ?_;cases b with
   | false =>
     repeat' first|refine aG ?_|refine ye c1 ?_|refine ye c2 ?_|refine aF ?_ ?_<;>intro hw<;>try omega|fail
     all_goals first|exact bK|(refine aS ?_ rfl;rw[<-hE];refine congrArg AV.bool ?_;clear hE;rw[a_];simp_all;done)|skip
   | true =>
     have c3:=c3 rfl;repeat' first|refine aG ?_|refine ye c1 ?_|refine ye c2 ?_|refine aF ?_ ?_<;>intro hw<;>try omega|fail
     all_goals first|exact bK|(refine aS ?_ rfl;rw[<-hE];refine congrArg AV.bool ?_;clear hE;rw[a_];simp_all;done)|skip
 ·have hf:ju t=t:=by unfold ju;rw[if_neg hz]
  rw[hf]at c1 c2 c3 hE;obtain⟨C,hC⟩:∃ C,fB t=C:=⟨_,rfl⟩;rw[hC]at c1 c2 c3 hE;obtain⟨C,m1,m2,e⟩:=C;dsimp only at c1 c2 c3 hE;generalize iF C t=b at *;generalize j0 C=B at *;obtain⟨bs,be⟩:=B;dsimp only at c3 hE;simp only[Ru,eB,dS,gQ,cH,eA]at c1 c2 c3;refine aM.DX (j9.go ?_) JZ;unfold eY;intro Q aC aD aE;simp only[yH,cH,eA];cases b with
  | false =>
    repeat' first|refine aG ?_|refine aF ?_ ?_<;>intro hw<;>try omega|fail
    all_goals first|exact bK|(refine aS ?_ rfl;rw[<-hE];refine congrArg AV.bool ?_;clear hE;rw[a_];simp_all;done)|skip
  | true =>
    have c3:=c3 rfl;repeat' first|refine aG ?_|refine aF ?_ ?_<;>intro hw<;>try omega|fail
    all_goals first|exact bK|(refine aS ?_ rfl;rw[<-hE];refine congrArg AV.bool ?_;clear hE;rw[a_];simp_all;done)|skip
def Qx(o:AV)(ho:o.dF=true)(n:Int)(t:Table)(s:aI)(h:Ie t): aM aK 104 [yH o n t,.str s] (.bool (kH t s)):=by
 have c1:=xK t h;have e:gO t=eT t++[mI]:=rfl;have hl:1<=(eT t).length:=by unfold eT;simp
 have NR:(eT t).length<=2 ^ 22:=by have:=h.ins.1;have:=h.outs.1;have:=h.rules.1;unfold eT;simp;omega
 have hg:(gO t).getD (((gO t).length:Int)-2).toNat default=(eT t).getD ((eT t).length-1) []:=by
  rw[e];have e2:(((eT t++[mI]).length:Int)-2).toNat=(eT t).length-1:=by rw[aA,List.length_singleton];omega
  rw[e2,LB (by omega)];rfl
 have vy:(gO t).length=(eT t).length+1:=by rw[e];simp
 unfold kH;generalize (eT t).getD ((eT t).length-1) []=w at *;generalize gO t=L at *;simp only[dS,gQ,cH,eA,bM]at c1;have JZ:AV.cB [yH o n t,.str s]=true:=by simp only[AV.cB,RP ho,AV.dF,fW]
 refine aM.DX (zf.go ?_) JZ;unfold eY;intro Q aC aD aE;simp only[yH,cH,eA];repeat' first|simp (disch:=omega) only[go_sem,aC,aD,aE,hg]|refine aG ?_|refine aF ?_ ?_<;>intro hw<;>try omega|fail
 all_goals first|exact bK|(refine aS ?_ rfl;refine congrArg AV.bool ?_;rw[a_];simp;done)|skip
def W0(c:Cell): (uU c).1.length<=200:=by
 unfold uU;repeat' split
 all_goals first|(simp;done)|(dsimp only;omega)
def W1(x:Expr): (pE x).1.length<=200:=by
 unfold pE o_;split
 ·simp
 split
 ·simp
 split
 ·simp
 ·rename_i h;simp only[decide_eq_true_eq]at h;dsimp only;omega
def W2{t:Table}(h:rB t){r:eL}(hr:r ∈ t.rules): (∀ s ∈ r.cells,s.length<=200)/\ ∀ s ∈ r.outs,s.length<=200:=by
 have hc:=h.clean;have h0:(fB t).2.2.2=0:=by rw[hc]
 obtain⟨c1,c2,c3⟩:=rz h0
 have qG:t.rules=ni t (eM t).1.lines.length:=by
  have:=congrArg (fun q=>q.1.rules) (c3.symm.trans hc);dsimp only at this;exact this.symm
 rw[qG]at hr;obtain⟨j,hj,rfl⟩:=cy.1 hr;unfold mB;rw[HM];refine⟨fun s hs=>?_,fun s hs=>?_⟩
 ·obtain⟨m,hm,rfl⟩:=cy.1 hs;exact W0 _
 ·obtain⟨m,hm,rfl⟩:=cy.1 hs;exact W1 _
def nH{s:aI}(h:fh s=true): s.length<=16:=by
 simp only[fh,aq,decide_eq_true_eq]at h;exact h.1.2
def OY{t:Table}(h:rB t){c:cV}(hc:c ∈ t.outs): c.order.length<=8:=by
 obtain⟨_,_,f3,_⟩:=jv h.frame;obtain⟨h1,h2,h3⟩:=h_ f3;have ho:=h3 _ hc;unfold iT at ho;split at ho
 ·simp only[aq,decide_eq_true_eq]at ho;exact ho.2.2
 ·simp only[decide_eq_true_eq]at ho;omega
def Gi{t:Table}(h:rB t): t.ins.length<=6/\t.outs.length<=6/\t.rules.length<=24:=by
 obtain⟨f1,f2,f3,f4,f5⟩:=jv h.frame;exact⟨(nq (h_ f2).1).1,(nq (h_ f3).1).1,f5⟩
def OZ{t:Table}(h:rB t)(hg:∀ c ∈ t.outs,∀ v ∈ c.order,iu v.n): Ie t:=by
 obtain⟨f1,f2,f3,f4,f5⟩:=jv h.frame;obtain⟨p1,p2,p3,p4,p5⟩:=pZ f4;obtain⟨l1,l2,l3⟩:=Gi h;have hn:=nH f1;refine⟨by omega,⟨by omega,p2⟩,⟨p3,p4⟩,⟨by omega,fun c hc=>?_⟩,⟨by omega,fun c hc=>?_⟩,by omega,fun r hr=>?_⟩
 ·obtain⟨a,b,d,_⟩:=vB h hc;have:=nH a;exact⟨by omega,by omega,d⟩
 ·obtain⟨a,b,d,e⟩:=qz h hc;have:=nH a;have:=OY h hc;exact⟨⟨by omega,by omega,d⟩,by omega,fun v hv=>⟨e v hv,hg c hc v hv⟩⟩
 ·obtain⟨a,b,_,_⟩:=A_ h hr;obtain⟨x,y⟩:=W2 h hr;exact⟨⟨by omega,fun s hs=>by have:=x s hs;omega⟩,by omega,fun s hs=>by have:=y s hs;omega⟩
def Ij{t:Table}(h:j8 t): ∀ c ∈ t.outs,∀ v ∈ c.order,iu v.n:=fun c hc v hv=>((h.2.2.1.2 c hc).2.2 v hv).1
def T8{t:Table}(hi:t.ins.length≠0)(h:ei t=true): rB (ju t):=by
 unfold ei at h;rw[if_neg hi]at h;simp only[aq,decide_eq_true_eq]at h;rw[tK h.1.2]at h;exact xJ h.2
def wH{t:Table}(ok:j8 t)(hi:t.ins.length≠0)(h:ei t=true): Ie t/\t.ins.length<=6/\t.outs.length<=6/\t.rules.length<=24:=by
 have hc:=T8 hi h;have hx:=OZ hc (Ij (RQ ok));have hl:=Gi hc;unfold ju at hx hl;split at hx
 ·rename_i hz;rw[if_pos hz]at hl;refine⟨⟨hx.name,hx.pol,hx.agg,hx.ins,⟨by omega,fun c hc=>?_⟩,hx.rules⟩,hl.1,by omega,hl.2.2⟩;rw[List.length_eq_zero_iff.1 hz]at hc;cases hc
 ·rename_i hz;rw[if_neg hz]at hl;exact⟨hx,hl⟩
structure wI (t:Table):Prop where
 ok:j8 t
 tx:Ie t
 ins:t.ins.length<=6
 outs:t.outs.length<=6
 rules:t.rules.length<=24
structure tQ (r:fV):Prop where
 out:∀ c ∈ r.out,g_ c
 tab:r.now≠0->wI r.t
def W3{s:aI}(hs:s.length<=2 ^ 17): tI (kT s).1:=by
 obtain⟨s1,s2,s3⟩:=me s 3;have z:=mN s2 1;have v:=LG (s:=(cn s 3).2.1) (by omega);unfold kT;split
 ·exact⟨by simp,by simp,fun v hv=>by cases hv⟩
 split
 ·refine⟨by dsimp only;omega,by have:=v.1.1;dsimp only;omega,fun w hw=>⟨(v.1.2 w hw).2,by have:=v.2 w hw;omega⟩⟩
 ·exact⟨by dsimp only;omega,by simp,fun v hv=>by cases hv⟩
def abl{s:aI}(hs:s.length<=2 ^ 16): ((ld s).1.cells.length<=2 ^ 17/\ ∀ z ∈ (ld s).1.cells,z.length<=2 ^ 16)/\(ld s).1.outs.length<=2 ^ 17/\ ∀ z ∈ (ld s).1.outs,z.length<=2 ^ 16:=by
 obtain⟨s1,s2,s3⟩:=me s 1;have p:=sG (cn s 1).2.1 58;have z0:=mN p.2 0;have z1:=mN p.2 1;have q0:=sG ((fO (cn s 1).2.1 58).getD 0 []) 124;have q1:=sG ((fO (cn s 1).2.1 58).getD 1 []) 124;unfold ld;split
 ·exact⟨⟨by simp,fun z hz=>by cases hz⟩,by simp,fun z hz=>by cases hz⟩
 ·dsimp only;exact⟨⟨by omega,fun z hz=>by have:=q0.2 z hz;omega⟩,by omega,fun z hz=>by have:=q1.2 z hz;omega⟩
def O1{r:fV}{s:aI}(h:wI r.t)(hs:s.length<=2 ^ 16): j8 (mE r s).t:=by
 obtain⟨h1,⟨h2,h2'⟩,h3,h4⟩:=h.ok;refine⟨h1,⟨?_,fun c hc=>?_⟩,h3,h4⟩
 ·have:=h.ins;simp[mE];omega
 ·rcases List.mem_append.1 hc with hc|hc
  ·exact h2' c hc
  ·rw[bR.1 hc];exact W3 (by omega)
def LI{r:fV}{s:aI}(h:wI r.t)(hs:s.length<=2 ^ 16): j8 (lN r s).t:=by
 obtain⟨h1,h2,⟨h3,Rs⟩,h4⟩:=h.ok;refine⟨h1,h2,⟨?_,fun c hc=>?_⟩,h4⟩
 ·have:=h.outs;simp[lN];omega
 ·rcases List.mem_append.1 hc with hc|hc
  ·exact Rs c hc
  ·rw[bR.1 hc];exact W3 (by omega)
def Ik{r:fV}{s:aI}(h:wI r.t)(hs:s.length<=2 ^ 16): j8 (kz r s).t:=by
 obtain⟨h1,h2,h3,h4,h5⟩:=h.ok;have hr:=abl hs;refine⟨h1,h2,h3,?_,fun c hc=>?_⟩
 ·have:=h.rules;simp[kz];omega
 ·rcases List.mem_append.1 hc with hc|hc
  ·exact h5 c hc
  ·rw[bR.1 hc];exact⟨⟨by omega,fun z hz=>by have:=hr.1.2 z hz;omega⟩,by omega,fun z hz=>by have:=hr.2.2 z hz;omega⟩
def W4{α : Type}(p : α->Bool)(l:List α): -1<=fI p l/\fI p l<l.length:=by
 unfold fI;split
 ·rename_i i hi;obtain⟨h,_⟩:=List.findIdx?_eq_some_iff_getElem.1 hi;omega
 ·omega
def Il{r:fV}{s:aI}(hs:s.length<=2 ^ 16)(hb:(gu r s).2=true): (gu r s).1.out=r.out/\(gu r s).1.now=1/\wI (gu r s).1.t:=by
 unfold gu at hb ⊢;split at hb
 ·cases hb
 rename_i h;rw[if_neg h];simp only[aq,decide_eq_true_eq]at hb
 have hn:fh ((cn s 4).1.getD 1 [])=true:=by
  cases hq:fh ((cn s 4).1.getD 1 [])with
  | true=>rfl
  | false=>exact absurd (.inr (.inr hq)) h
 have hl:=nH hn;have i1:=W4 (fun x=>x==(cn s 4).1.getD 2 []) rW;have i2:=W4 (fun x=>x==(cn s 4).1.getD 3 []) oE;have l1:rW.length=7:=rfl;have l2:oE.length=5:=rfl;refine⟨rfl,rfl,⟨⟨by dsimp only;omega,⟨by simp,fun c hc=>by cases hc⟩,⟨by simp,fun c hc=>by cases hc⟩,by simp,fun c hc=>by cases hc⟩,⟨by dsimp only;omega,⟨by dsimp only;omega,by dsimp only;omega⟩,⟨by dsimp only;omega,by dsimp only;omega⟩,⟨by simp,fun c hc=>by cases hc⟩,⟨by simp,fun c hc=>by cases hc⟩,by simp,fun c hc=>by cases hc⟩,by simp,by simp,by simp⟩⟩
def Im: zF []:=⟨by decide,fun c hc=>(by cases hc)⟩
def T9{t:Table}(h:j8 t): g_ { eV with kind:=1,table:=t }:=⟨⟨by simp[eV],by simp[eV]⟩,h,by simp[eV],k_,Im,k_,k_⟩
def O2{k:Int}{s:aI}(hk:iu k)(hs:s.length<=2 ^ 16): g_ (kJ k s).1:=by
 obtain⟨s1,s2,s3⟩:=me s 3;have z:=mN s2 1;have v:=LG (s:=(cn s 3).2.1) (by omega);have n:=wG ((cn s 3).1.getD 2 []);unfold kJ;split
 ·exact JI
 split
 ·refine⟨hk,sD,by dsimp only;omega,n,⟨by have:=v.1.1;dsimp only;omega,fun w hw=>⟨(v.1.2 w hw).2,by have:=v.2 w hw;omega⟩⟩,k_,k_⟩
 ·exact⟨hk,sD,by dsimp only;omega,n,Im,k_,k_⟩
def LJ{k:Int}{s:aI}(n:Nat)(hk:iu k): g_ (j3 k s n).1:=by
 have n1:=wG ((cn s (n+1)).1.getD 1 []);have n2:=wG ((cn s (n+1)).1.getD 2 []);unfold j3;split
 ·exact JI
 split
 ·exact⟨hk,sD,by simp[eV],k_,Im,n1,n2⟩
 ·exact⟨hk,sD,by simp[eV],k_,Im,n1,k_⟩
def ok_one{s:aI}(hs:s.length<=2 ^ 16): g_ (lJ s).1:=by
 have k:∀ k:Int,0<=k->k<=9->g_ { eV with kind:=k }:=fun k a b=>⟨⟨by dsimp only;omega,by dsimp only;omega⟩,sD,by simp[eV],k_,Im,k_,k_⟩;unfold lJ;repeat' split
 ·exact O2 ⟨by decide,by decide⟩ hs
 ·exact O2 ⟨by decide,by decide⟩ hs
 ·exact LJ 2 ⟨by decide,by decide⟩
 ·exact LJ 1 ⟨by decide,by decide⟩
 ·exact k 4 (by decide) (by decide)
 ·exact k 7 (by decide) (by decide)
 ·exact k 8 (by decide) (by decide)
 ·exact k 9 (by decide) (by decide)
 ·exact JI
def Qy{r:fV}{s:aI}(h:tQ r)(hn:r.now≠0)(hs:s.length<=2 ^ 16)(hb:(jH r s).2=true)(hp:3<=r.now->r.t.ins≠[])(hq:r.now=2->r.t.ins≠[]): tQ (jH r s).1:=by
 have hg:=h.tab hn
 have key:∀ t:Table,j8 t->t.ins.length≠0->ei t=true->wI t:=fun t ok hi hst=>by
  obtain⟨a,b,c,d⟩:=wH ok hi hst;exact⟨ok,a,b,c,d⟩
 unfold jH at hb ⊢;split at hb
 ·rename_i c;rw[if_pos c];simp only[aq]at hb;exact⟨h.out,fun _=>key _ (O1 hg hs) (by simp[mE]) hb.1.2⟩
 split at hb
 ·rename_i c0 c;rw[if_neg c0,if_pos c];simp only[aq]at hb
  have hi:r.t.ins≠[]:=by
   rcases c.2 with e|e
   ·exact hq e
   ·exact hp (by omega)
  exact⟨h.out,fun _=>key _ (LI hg hs) (fun e=>hi (List.length_eq_zero_iff.1 e)) hb.1.2⟩
 split at hb
 ·rename_i c0 c1 c;rw[if_neg c0,if_neg c1,if_pos c];simp only[aq]at hb;exact⟨h.out,fun _=>key _ (Ik hg hs) (fun e=>hp c.2 (List.length_eq_zero_iff.1 e)) hb.1.2⟩
 split at hb
 ·rename_i c0 c1 c2 c;rw[if_neg c0,if_neg c1,if_neg c2,if_pos c];refine⟨fun x hx=>?_,fun h=>absurd rfl h⟩;rcases List.mem_append.1 hx with hx|hx
  ·exact h.out x hx
  ·rw[bR.1 hx];exact T9 hg.ok
 ·cases hb
def LK{r:fV}{u s:aI}(hi:Inv r u)(h:tQ r)(hs:s.length<=2 ^ 16)(hb:(eu r s).2=true): tQ (eu r s).1:=by
 unfold eu at hb ⊢;split at hb
 ·rename_i hn;rw[if_pos hn];exact Qy h hn hs hb (fun h=>hi.p1 (by omega)) (fun h=>hi.p1 (by omega))
 rename_i hn;rw[if_neg hn];split at hb
 ·cases hb
 rename_i Wx;rw[if_neg Wx];split at hb
 ·rename_i c;rw[if_pos c];simp only[aq]at hb;obtain⟨a,b,d⟩:=Il hs hb.1.1;exact⟨fun x hx=>h.out x (by rw[a]at hx;exact hx),fun _=>d⟩
 ·rename_i c;rw[if_neg c];split at hb
  ·cases hb
  rename_i c2;rw[if_neg c2];refine⟨fun x hx=>?_,fun h'=>absurd (Classical.not_not.1 hn) h'⟩;rcases List.mem_append.1 hx with hx|hx
  ·exact h.out x hx
  ·rw[bR.1 hx];exact ok_one hs
def Z5: tQ qQ:=⟨fun c hc=>(by cases hc),fun h=>absurd rfl h⟩
