/- The reference's Normal. The reference's GreatSystem. -/
import Derived.Deep.LoopGhost
import Derived.Test.YtigdclhagmnopaaGreatZq38
set_option maxRecDepth 100000
set_option maxHeartbeats 8000000
set_option linter.unusedSimpArgs false
set_option linter.unusedVariables false
namespace Go.Proofs.YtigdclhagmnopaaGreat
open Go.RowKit
attribute [local go_sem] Zh
def ModI (rs:List RI) (n m k:Nat):Prop:=(∀ (j:Nat) (r:RI),j < n->j < 210->rs[j]?=some r->(r.n <= 4 \/ 12 < r.n)/\r.n <= 15)/\(n <= 12 \/ 200 < n)/\n <= 210/\m <= 300/\k <= 300
theorem Zj8 (A B C:Option Addr) (n c m d k e0:Nat) (rs:List RI) (w:World) (h:MIL w A n c rs) (hm:m <= maxLen) (hk:k <= maxLen) :
    Calls Tryz.prog 15 #[.slice A n c,.slice B m d,.slice C k e0] w fun e w'=>∃ b:Bool,e=.returned (.bool b)/\Below w.heap.size w w'/\(b=false->ModI rs n m k):=by
 have hnc:=h.2.1;have hcm:=h.2.2.1;unfold maxLen at hcm hm hk;replace h:=Za h;go_enter Tryz.func15,Tryz.ntmps15;go_wp2_with fail
 go_loopw [7] (fun iv wr=>∃ i:Nat,i <= n/\i <= 210/\iv=.int .i64 i/\Hid (∀ (j:Nat) (r:RI),j < i->rs[j]?=some r->(r.n <= 4 \/ 12 < r.n)/\r.n <= 15)/\Below w.heap.size w wr) (fun iv _=>n - (intOf iv).toNat)
 case atStart=>exact ⟨0,Nat.zero_le _,Nat.zero_le _,rfl,Za (fun j r hj=>by omega),Below.refl _ _⟩
 case round =>
  obtain ⟨i,hik,hi2,rfl,hall,hBp⟩:=hrel
  by_cases hin:i < n/\i < 210
  case pos =>
   have t1:decide ((i:Int) < (n:Int))=true:=decide_eq_true (by omega);have t2:decide ((i:Int) < 210)=true:=decide_eq_true (by omega)
   have bi:(i:Int) < (n:Int):=by omega
   obtain ⟨g,o,r,rfl,he,c0,hL⟩:=(h.out.below hBp).at_ hin.1;have hrn:=hL.nlen;unfold maxLen at hrn;clear hL
   by_cases hx:(4 < r.n/\r.n <= 12) \/ 15 < r.n
   ·rcases hx with ⟨hx1,hx2⟩ | hx1
    ·have u1:decide ((4:Int) < (r.n:Int))=true:=decide_eq_true (by omega)
     have u2:decide ((r.n:Int) <= 12)=true:=decide_eq_true (by omega);replace he:=Za he;go_wp2_with fail;go_ret;exact ⟨true,rfl,by first | exact hBp | exact Zf hBp _,fun h=>by cases h⟩
    ·have u1:decide ((4:Int) < (r.n:Int))=true:=decide_eq_true (by omega)
     have u2:decide ((r.n:Int) <= 12)=false:=decide_eq_false (by omega);have u3:decide ((15:Int) < (r.n:Int))=true:=decide_eq_true (by omega);replace he:=Za he;go_wp2_with fail;go_ret;exact ⟨true,rfl,by first | exact hBp | exact Zf hBp _,fun h=>by cases h⟩
   ·have hall2:Hid (∀ (j:Nat) (r:RI),j < i+1->rs[j]?=some r->(r.n <= 4 \/ 12 < r.n)/\r.n <= 15):=Za (fun j e' hj he'=>by
      rcases Nat.lt_or_ge j i with h' | h'
      ·exact hall.out j e' h' he'
      ·obtain rfl:j=i:=by omega
       rw [he] at he'
       cases he'
       omega)
    replace he:=Za he;have u3:decide ((15:Int) < (r.n:Int))=false:=decide_eq_false (by omega)
    by_cases h4:4 < r.n
    ·have u1:decide ((4:Int) < (r.n:Int))=true:=decide_eq_true (by omega)
     have u2:decide ((r.n:Int) <= 12)=false:=decide_eq_false (by omega);go_wp2_with fail
     go_roundw
     case rel=>exact ⟨i+1,by omega,by omega,by go_num,hall2,(by first | exact hBp | exact Zf hBp _)⟩
     case measure=>simp [intOf];omega
    ·have u1:decide ((4:Int) < (r.n:Int))=false:=decide_eq_false (by omega)
     go_wp2_with fail
     go_roundw
     case rel=>exact ⟨i+1,by omega,by omega,by go_num,hall2,(by first | exact hBp | exact Zf hBp _)⟩
     case measure=>simp [intOf];omega
  have hmod:(n <= 12 \/ 200 < n)->n <= 210->m <= 300->k <= 300->ModI rs n m k:=fun a1 a2 a3 a4=>⟨fun j r hj hj2 hr=>hall.out j r (by omega) hr,a1,a2,a3,a4⟩
  replace hmod:=Za hmod;clear hall h;obtain ⟨x1,y1⟩:∃ b,decide ((12:Int) < (n:Int))=b:=⟨_,rfl⟩;obtain ⟨x2,y2⟩:∃ b,decide ((n:Int) <= 200)=b:=⟨_,rfl⟩;obtain ⟨x3,y3⟩:∃ b,decide ((210:Int) < (n:Int))=b:=⟨_,rfl⟩;obtain ⟨x4,y4⟩:∃ b,decide ((300:Int) < (m:Int))=b:=⟨_,rfl⟩;obtain ⟨x5,y5⟩:∃ b,decide ((300:Int) < (k:Int))=b:=⟨_,rfl⟩
  have hfin:∀ b:Bool,((x1 && x2) || (x3 || (x4 || x5)))=b->(b=false->ModI rs n m k):=fun b hb hf=>by
   subst hf;simp only [Bool.or_eq_false_iff] at hb;obtain ⟨h1,h2,h3,h4⟩:=hb;rw [h2] at y3;rw [h3] at y4;rw [h4] at y5;have z3:=of_decide_eq_false y3;have z4:=of_decide_eq_false y4;have z5:=of_decide_eq_false y5;refine hmod.out ?_ (by omega) (by omega) (by omega)
   cases x1 with
   | false=>have:=of_decide_eq_false y1;omega
   | true =>
    cases x2 with
    | false=>have:=of_decide_eq_false y2;omega
    | true=>cases h1
  replace hfin:=Za hfin
  by_cases hi:i < n
  ·obtain rfl:i=210:=by omega
   have t1:decide (((210:Nat):Int) < (n:Int))=true:=decide_eq_true (by omega)
   have t2:decide (((210:Nat):Int) < 210)=false:=by decide
   cases x1 <;> cases x2 <;> cases x3 <;> cases x4 <;> cases x5
   all_goals go_wp2_with fail
   all_goals (go_ret;exact ⟨_,rfl,(by first | exact hBp | exact Zf hBp _),hfin.out _ rfl⟩)
  ·have t1:decide ((i:Int) < (n:Int))=false:=decide_eq_false (by omega)
   cases x1 <;> cases x2 <;> cases x3 <;> cases x4 <;> cases x5
   all_goals go_wp2_with fail
   all_goals (go_ret;exact ⟨_,rfl,(by first | exact hBp | exact Zf hBp _),hfin.out _ rfl⟩)
def CD (D M:Nat) (q:Rat):Prop:=∃ z:Int,q=(z:Rat) / (D:Rat)/\z.natAbs <= M
section
variable {D M N:Nat} {p q:Rat}
theorem CD.mono (h:CD D M q) (hM:M <= N):CD D N q:=by
 obtain ⟨z,e,hz⟩:=h;exact ⟨z,e,Nat.le_trans hz hM⟩
theorem CD.add (h:CD D M p) (k:CD D N q):CD D (M+N) (p+q):=by
 obtain ⟨y,e,hy⟩:=h;obtain ⟨z,f,hz⟩:=k;refine ⟨y+z,?_,by omega⟩;rw [e,f,Rat.intCast_add]
 grind
theorem CD.sub (h:CD D M p) (k:CD D N q):CD D (M+N) (p - q):=by
 obtain ⟨y,e,hy⟩:=h;obtain ⟨z,f,hz⟩:=k;refine ⟨y - z,?_,by omega⟩;rw [e,f,Rat.intCast_sub]
 grind
theorem CD.mul {E:Nat} (h:CD D M p) (k:CD E N q):CD (D * E) (M * N) (p * q):=by
 obtain ⟨y,e,hy⟩:=h;obtain ⟨z,f,hz⟩:=k;refine ⟨y * z,?_,by rw [Int.natAbs_mul];exact Nat.mul_le_mul hy hz⟩;rw [e,f,Rat.intCast_mul,Rat.natCast_mul]
 grind
theorem CD.whole (z:Int):CD 1 z.natAbs (z:Rat):=⟨z,by grind,Nat.le_refl _⟩
theorem CD.lift {E:Nat} (h:CD D M q) (hE:0 < E):CD (D * E) (M * E) q:=by
 obtain ⟨z,e,hz⟩:=h;refine ⟨z * E,?_,by rw [Int.natAbs_mul];exact Nat.mul_le_mul hz (by omega)⟩
 have h1:(E:Rat) ≠ 0:=by
  intro h0
  have:((E:Int):Rat)=((0:Int):Rat):=by simpa using h0
  have:=Rat.intCast_inj.1 this;omega
 rw [e,Rat.intCast_mul,Rat.natCast_mul]
 have h2:((E:Int):Rat)=(E:Rat):=by first | rfl | exact Rat.intCast_natCast E | push_cast
 rw [h2]
 grind
end
theorem Zvx (A:Option Addr) (n c:Nat) (rs:List RX) (w:World) (h:MXL w A n c rs) (E:Int) (hs:sqE rs=E) (hE:E ≠ 0) :
    Calls Tryz.prog 24 #[.slice A n c] w fun e w'=>e=.returned (.tuple #[.agg #[.bool false,.slice none 0 0,.bool false,.slice none 0 0],.int .i64 E])/\Below w.heap.size w w':=by
 obtain ⟨W0,hW0,hB0,q0,s0⟩:=Zbr w 45 #[.bool false,.slice none 0 0,.bool false,.slice none 0 0];have t1:decide (E ≠ 0)=true:=decide_eq_true hE
 have t1':(E != 0)=true:=by simpa using hE
 replace h:=Za (h.below hB0);replace hs:=Za hs;replace hE:=Za hE;go_enter Tryz.func24,Tryz.ntmps24;go_wp2_with fail;(try rw [hW0]);refine (Zdf A n c rs W0 h.out E hs.out).mono ?_;rintro e w1 ⟨rfl,hb1⟩;have q1:=Zc hb1 q0;obtain ⟨c0,c1,c2,c3,f0,f1,f2,f3⟩:=q1.four;go_wp2_with fail;obtain ⟨W5,hW5,hB5,q2,-,-,s5⟩:=Z3 false none 0 0 false none 0 0 (hB0.trans (hb1.mono hB0.size)) (Nat.le_refl _) q1;(try rw [hW5]);obtain ⟨r0,r1,r2,r3,-⟩:=q2.four;refine bodyPost_ret (v:=.tuple #[.agg #[.bool false,.slice none 0 0,.bool false,.slice none 0 0],.int .i64 E]) (by simp [results,Tryz.results24,go_sem,r0,r1,r2,r3]) rfl ?_;exact ⟨rfl,hB5⟩
theorem Ztl (A:Option Addr) (n c:Nat) (rs:List RX) (w:World) (h:MXL w A n c rs) (hs:sqE rs=0) (hg:Znl (qM rs) n) :
    Calls Tryz.prog 24 #[.slice A n c] w fun e w'=>∃ na A n c nb B m d,e=.returned (.tuple #[.agg #[.bool na,.slice A n c,.bool nb,.slice B m d],.int .i64 0])/\Below w.heap.size w w'/\Fr w' na A n c nb B m d (Zhy (qM rs)):=by
 obtain ⟨hE1,hE2⟩:=Zjz hs;obtain ⟨f1,f2,f3,f4,f5⟩:=Zdx hE1;have hl:=h.1;have hQr:=Zv5 h hE1;rw [show n0R rs=n by omega] at hQr;obtain ⟨W0,hW0,hB0,q0,s0⟩:=Zbr w 45 #[.bool false,.slice none 0 0,.bool false,.slice none 0 0];have hF:=Za ((h.good hE1).below hB0);replace h:=Za (h.below hB0);replace hs:=Za hs;replace hQr:=Za hQr
 have hn1:1 <= n:=by omega
 have hn12:n <= 12:=by omega
 clear f3 f4 f5 hE1 hE2 f1 f2;go_enter Tryz.func24,Tryz.ntmps24;go_wp2_with fail;(try rw [hW0]);refine (Zdf A n c rs W0 h.out 0 hs.out).mono ?_;rintro e w1 ⟨rfl,hb1⟩;have q1:=Zc hb1 q0;clear hW0;go_wp2_with fail;refine (Zs9 A n c (qM rs) w1 (hF.out.below hb1) (by omega) (by omega) hQr.out hg.1 hg.2.1 hg.2.2.1 hg.2.2.2.1).mono ?_;rintro e w2 ⟨hb2,na,A2,n2,c2,nb,B2,m2,d2,rfl,hf2⟩;rw [hg.2.2.2.2] at hf2;have hB2:=hB0.trans ((hb1.trans (hb2.mono hb1.size)).mono hB0.size);have q2:=Zc hb2 q1;obtain ⟨c0,c1,c2',c3,f0,f1,f2,f3⟩:=q2.four;obtain ⟨W5,hW5,hB5,q5,kW,-,s5⟩:=Z3 na A2 n2 c2 nb B2 m2 d2 hB2 (Nat.le_refl _) q2;have hf5:=Za (Fr.keep hf2 kW);clear hf2;go_wp2_with fail;(try rw [hW5]);obtain ⟨r0,r1,r2,r3,-⟩:=q5.four;refine bodyPost_ret (v:=.tuple #[.agg #[.bool na,.slice A2 n2 c2,.bool nb,.slice B2 m2 d2],.int .i64 0]) (by simp [results,Tryz.results24,go_sem,r0,r1,r2,r3]) rfl ?_;exact ⟨_,_,_,_,_,_,_,_,rfl,hB5,hf5.out⟩
section
variable {k n m:Nat} {R:List (List Rat)}
def Zo7 (k m n:Nat) (R:List (List Rat)):Prop:=
    okZ (pw 200) m n 0 0 (Zt R) 1/\okR (pw 200) (pw 200) m n 0 0 R/\Zgl R n m/\(Zae n 0 0 (Zt R) false 1).2.1=(Zak n 0 0 R false).2.1/\(Zak n 0 0 R false).2.1 <= n /\
    ((Zak n 0 0 R false).2.1 < n->Z1 n (Zn R)=0) /\
    ((Zak n 0 0 R false).2.1=n->Z1 n (Zn R) ≠ 0/\∃ X:Nat->Nat->Rat,Zfc (Zn (Zak n 0 0 R false).1) X n m/\Zfc (fun i j=>(Zaf (Zae n 0 0 (Zt R) false 1).1 i j:Rat)) X n m/\SolQ (Zn R) X n m /\
     ∀ i k',(X i k').num.natAbs <= pw ((k * m+k+1) * n)/\(X i k').den <= pw ((k * m+k+1) * n))
theorem SmE.solve (h:SmE k R) (hl:R.length=n) (hn:n <= 900) (hrow:∀ i,i < n->(R[i]?.getD []).length=m) (hnm:n <= m) (h1:(k * m+k+1) * n+k * m < 189) (h2:k < 189) (h3:2 * ((k * m+k+1) * n)+k * m+1 < 400):Zo7 k m n R:=by
 unfold Zo7;have hb:=Zgb (b:=k * m+k) n hn;obtain ⟨B,hB⟩:∃ B,Za1 (pw (k * m+k)) n=B:=⟨_,rfl⟩;rw [hB] at hb;obtain ⟨b,hbe⟩:∃ b,(k * m+k+1) * n=b:=⟨_,rfl⟩;rw [hbe] at hb h1 h3 ⊢
 have bb:B * B <= pw (b+b):=by rw [Zdp];exact Nat.mul_le_mul hb hb
 have bs:B * pw (k * m) <= pw (b+k * m):=by rw [Zdp];exact Nat.mul_le_mul hb (Nat.le_refl _)
 have g1:(n+1) * (B * B) < pw 400:=by
  have h5:n+1 <= pw 1:=by rw [Zbh,Zdo];omega
  have h6:(n+1) * (B * B) <= pw (1+(b+b)):=by rw [Zdp];exact Nat.mul_le_mul h5 bb
  exact Nat.lt_of_le_of_lt h6 (Zb0 (by omega))
 have g2:B * B * pw (k * m) < pw 400:=by
  have h6:B * B * pw (k * m) <= pw (b+b+k * m):=by rw [Zdp];exact Nat.mul_le_mul bb (Nat.le_refl _)
  exact Nat.lt_of_le_of_lt h6 (Zb0 (by omega))
 have g3:B * pw (k * m) < pw 300:=Nat.lt_of_le_of_lt bs (Zb0 (by omega));have hs:=Zmc (B:=pw (k * m+k)) (S:=pw (k * m)) (Zbt _) (Zbt _) R hl hrow (fun i hi=>h.denAt (hrow i hi)) (fun i j hi=>h.whole (hrow i hi) j) hnm (by rw [hB];exact g1) (by rw [hB];exact g2) (by rw [hB];exact g3);rw [hB] at hs;obtain ⟨o1,o2,o3,o4,o5,o6⟩:=hs;have p1:B < pw 200:=Nat.lt_of_le_of_lt hb (Zb0 (by omega));have p2:B * pw (k * m) < pw 200:=Nat.lt_of_le_of_lt bs (Zb0 (by omega));refine ⟨Zfs p1 _ _ _ _ _ o1,Zg0 p1 p2 _ _ _ _ o2,⟨fun i t hi ht=>?_,fun i j=>?_⟩,o3,o4,o5,fun hr=>?_⟩
 ·refine Nat.lt_of_le_of_lt (h.denTo i t) (Zb0 ?_)
  have:k * t <= k * m:=Nat.mul_le_mul (Nat.le_refl _) ht;omega
 ·exact Nat.lt_of_le_of_lt (h i j).1 (Zb0 (by omega))
 ·obtain ⟨q1,X,q2,q3,q4,q5⟩:=o6 hr
  exact ⟨q1,X,q2,q3,q4,fun i k'=>⟨Nat.le_trans (q5 i k').1 hb,Nat.le_trans (q5 i k').2 hb⟩⟩
end
theorem Zfu {Q:List (List Rat)} {b:List Rat} {n:Nat} (hrow:∀ i,i < n->(Q[i]?.getD []).length=n) (hq:Q.length=n) (i j:Nat):Zn (wideB Q b n n) i j=if i < n then (if j < n then Zn Q i j else if j=n then b[i]?.getD 0 else 0) else 0:=by
 by_cases hi:i < n
 ·rw [if_pos hi]
  unfold Zn;rw [Zj0 hi,if_pos hi];have hr:=hrow i hi
  by_cases hj:j < n
  ·rw [if_pos hj,List.getElem?_append_left (by omega)]
  ·rw [if_neg hj,List.getElem?_append_right (by omega),hr]
   by_cases hjn:j=n
   ·subst hjn;rw [if_pos rfl,Nat.sub_self];rfl
   ·rw [if_neg hjn,List.getElem?_eq_none (by simp;omega)];rfl
 ·rw [if_neg hi]
  unfold Zn;rw [List.getElem?_eq_none (l:=wideB Q b n n) (by rw [Zm6];omega)];rfl
theorem Zg1 (k:Nat):(0:Rat).num.natAbs <= pw k/\(0:Rat).den <= pw k:=⟨Nat.zero_le _,Zbt _⟩
theorem SmE.wideB {k n:Nat} {Q:List (List Rat)} {b:List Rat} (h:SmE k Q) (hb:∀ i:Nat,(b[i]?.getD 0).num.natAbs <= pw k/\(b[i]?.getD 0).den <= pw k) (hrow:∀ i,i < n->(Q[i]?.getD []).length=n) (hq:Q.length=n):SmE k (wideB Q b n n):=fun i j=>by
 rw [Zfu hrow hq]
 split
 ·split
  ·exact h i j
  ·split
   ·exact hb i
   ·exact Zg1 k
 ·exact Zg1 k
def FracD (w:World) (d:DF) (E:Int) (e:Ending) (w':World):Prop:=
 ∃ A n c B m d1,e=.returned (.tuple #[.agg #[.bool d.na,.slice A n c,.bool d.nb,.slice B m d1],.int .i64 E])/\Below w.heap.size w w'/\Lim w' A n c d.la/\Lim w' B m d1 d.lb
def RowD (w:World) (ds:List DF) (E:Int) (e:Ending) (w':World):Prop:=
 ∃ A n c,e=.returned (.tuple #[.slice A n c,.int .i64 E])/\Below w.heap.size w w'/\XL w' A n c ds
def dfZ:DF:=⟨false,[],false,[]⟩
theorem FracD.of_fr {w w':World} {e:Ending} {q:Rat} (h:∃ na A n c nb B m d,e=.returned (.tuple #[.agg #[.bool na,.slice A n c,.bool nb,.slice B m d],.int .i64 0])/\Below w.heap.size w w'/\Fr w' na A n c nb B m d q):FracD w (dfQ q) 0 e w':=by
 obtain ⟨na,A,n,c,nb,B,m,d,e1,hb,hf⟩:=h;have h1:=hf.1.1;have h2:=hf.2.1;have h3:=hf.2.2.2;rw [Int.natAbs_natCast] at h3
 have h4:nb=false:=by rw [h2];exact decide_eq_false (by omega)
 subst h1 h4;exact ⟨_,_,_,_,_,_,e1,hb,hf.1.2.2,h3⟩
def SmallQ (Q:List (List Rat)) (n:Nat):Prop:=0 < n/\n <= 5/\Q.length=n/\(∀ i,i < n->(Q[i]?.getD []).length=n)/\SmE 2 Q
theorem SmallQ.det {Q:List (List Rat)} {n:Nat} (h:SmallQ Q n):Znl Q n/\okR (pw 190) (pw 190) n n 0 0 Q/\Zhy Q=Z1 n (Zn Q):=by
 obtain ⟨h1,h2,h3,h4,h5⟩:=h;have hb:(2 * n+2+1) * n <= 13 * 5:=Nat.mul_le_mul (by omega) (by omega);have hb2:2 * n * n <= 10 * 5:=Nat.mul_le_mul (by omega) (by omega);exact h5.det h3 (by omega) h4 (by omega) (by decide) (by omega)
theorem SmallQ.solveB {Q:List (List Rat)} {n:Nat} {b:List Rat} (h:SmallQ Q n) (hb:∀ i:Nat,(b[i]?.getD 0).num.natAbs <= pw 2/\(b[i]?.getD 0).den <= pw 2):Zo7 2 (n+1) n (wideB Q b n n):=(h.2.2.2.2.wideB hb h.2.2.2.1 h.2.2.1).solve (Zm6 Q b n n) (m:=n+1) (by have:=h.2.1;omega)
 (fun i hi=>by rw [Zj0 hi,if_pos hi,List.length_append,h.2.2.2.1 i hi];rfl) (by omega)
 (by
  have h2:=h.2.1;have:(2 * (n+1)+2+1) * n <= 15 * 5:=Nat.mul_le_mul (by omega) (by omega)
  omega) (by decide)
 (by
  have h2:=h.2.1;have:(2 * (n+1)+2+1) * n <= 15 * 5:=Nat.mul_le_mul (by omega) (by omega)
  omega)
theorem OwnF.xl {t:TypeId} {w:World} {base:Nat} {v:Value} {qs:List Rat} (h:OwnF t w base v qs):∃ A n c,v=.slice A n c/\XL w A n c (qs.map dfQ):=by
 obtain ⟨A,c,e,hf⟩:=h.fl;exact ⟨A,_,c,e,hf.xl⟩
theorem Zp1 {n:Nat} (f g:Nat->Rat):sumQ n (fun i=>f i+g i)=sumQ n f+sumQ n g:=by
 induction n with
 | zero=>simp only [sumQ];grind
 | succ n ih=>simp only [sumQ];rw [ih];grind
theorem Zg9 {n:Nat} (f g:Nat->Rat):sumQ n (fun i=>f i - g i)=sumQ n f - sumQ n g:=by
 induction n with
 | zero=>simp only [sumQ];grind
 | succ n ih=>simp only [sumQ];rw [ih];grind
theorem Zb8 {n:Nat} (f:Nat->Rat) (c:Rat):sumQ n (fun i=>f i * c)=sumQ n f * c:=by
 induction n with
 | zero=>simp only [sumQ];grind
 | succ n ih=>simp only [sumQ];rw [ih];grind
theorem Zek {n m:Nat} (f:Nat->Nat->Rat):sumQ n (fun r=>sumQ m (fun k=>f r k))=sumQ m (fun k=>sumQ n (fun r=>f r k)):=by
 induction n with
 | zero=>simp only [sumQ];rw [Zdi (fun _ _=>rfl)]
 | succ n ih=>simp only [sumQ];rw [ih,Zp1]
theorem Zer (ws:List Int) (a b:Nat->Int) (n:Nat):((Za4 ws a b n:Int):Rat)=sumQ n (fun r=>(Z5 ws r:Rat) * ((a r:Rat) * (b r:Rat))):=by
 induction n with
 | zero=>rfl
 | succ n ih =>
  simp only [Za4,sumQ];rw [Rat.intCast_add,Rat.intCast_mul,Rat.intCast_mul,ih]
  rfl
theorem Zti (ws:List Int) (a b:Nat->Int) (n:Nat):Za4 ws a b n=Za4 ws b a n:=by
 induction n with
 | zero=>rfl
 | succ n ih=>simp only [Za4];rw [ih,Int.mul_comm (a n)]
section
variable (rs:List RI) (rr ws:List Int) (x:Nat->Rat)
def Zaz (t r:Nat):Rat:=(Z5 rr r:Rat) - sumQ t (fun k=>(Zv rs k r:Rat) * x k)
def Zby (m t:Nat):Rat:=sumQ t (fun r=>Zaz rs rr x m r * Zaz rs rr x m r * (Z5 ws r:Rat))
def Zjj (n t:Nat):Rat:=((Za4 ws (Z5 rr) (Z5 rr) n:Int):Rat) - sumQ t (fun k=>x k * ((Za4 ws (Zv rs k) (Z5 rr) n:Int):Rat))
def Zey (n m:Nat):Prop:=∀ i,i < m->sumQ m (fun j=>((Za4 ws (Zv rs i) (Zv rs j) n:Int):Rat) * x j)=((Za4 ws (Zv rs i) (Z5 rr) n:Int):Rat)
end
section
variable {rs:List RI} {rr ws:List Int} {x:Nat->Rat} {n m:Nat}
theorem Zmz (t r:Nat):Zaz rs rr x (t+1) r=Zaz rs rr x t r - (Zv rs t r:Rat) * x t:=by
 unfold Zaz;simp only [sumQ]
 grind
theorem Zm4 (r:Nat):Zaz rs rr x 0 r=(Z5 rr r:Rat):=by
 unfold Zaz;simp only [sumQ]
 grind
theorem Zlh (hN:Zey rs rr ws x n m) {k:Nat} (hk:k < m):sumQ n (fun r=>(Z5 ws r:Rat) * (Zaz rs rr x m r * (Zv rs k r:Rat)))=0:=by
 have h1:sumQ n (fun r=>(Z5 ws r:Rat) * (Zaz rs rr x m r * (Zv rs k r:Rat)))=sumQ n (fun r=>(Z5 ws r:Rat) * ((Zv rs k r:Rat) * (Z5 rr r:Rat)) - sumQ m (fun j=>(Z5 ws r:Rat) * ((Zv rs k r:Rat) * (Zv rs j r:Rat)) * x j)):=Zm fun r _=>by
  have h2:sumQ m (fun j=>(Z5 ws r:Rat) * ((Zv rs k r:Rat) * (Zv rs j r:Rat)) * x j)=sumQ m (fun j=>(Zv rs j r:Rat) * x j) * ((Z5 ws r:Rat) * (Zv rs k r:Rat)):=by
   rw [<- Zb8]
   exact Zm fun j _=>by grind
  rw [h2];unfold Zaz
  grind
 have h3:sumQ n (fun r=>sumQ m (fun j=>(Z5 ws r:Rat) * ((Zv rs k r:Rat) * (Zv rs j r:Rat)) * x j))=sumQ m (fun j=>((Za4 ws (Zv rs k) (Zv rs j) n:Int):Rat) * x j):=by
  rw [Zek]
  exact Zm fun j _=>by rw [Zb8,Zer]
 rw [h1,Zg9,h3,hN k hk,Zer]
 grind
theorem Zqu (hN:Zey rs rr ws x n m):Zby rs rr ws x m n=Zjj rs rr ws x n m:=by
 have h1:Zby rs rr ws x m n=sumQ n (fun r=>(Z5 ws r:Rat) * (Zaz rs rr x m r * (Z5 rr r:Rat)) - sumQ m (fun k=>(Z5 ws r:Rat) * (Zaz rs rr x m r * (Zv rs k r:Rat)) * x k)):=Zm fun r _=>by
  have h2:sumQ m (fun k=>(Z5 ws r:Rat) * (Zaz rs rr x m r * (Zv rs k r:Rat)) * x k)=sumQ m (fun j=>(Zv rs j r:Rat) * x j) * ((Z5 ws r:Rat) * Zaz rs rr x m r):=by
   rw [<- Zb8]
   exact Zm fun j _=>by grind
  have h4:sumQ m (fun j=>(Zv rs j r:Rat) * x j)=(Z5 rr r:Rat) - Zaz rs rr x m r:=by unfold Zaz;grind
  rw [h2,h4]
  grind
 have h3:sumQ n (fun r=>sumQ m (fun k=>(Z5 ws r:Rat) * (Zaz rs rr x m r * (Zv rs k r:Rat)) * x k))=0:=by
  rw [Zek]
  exact Zdi fun k hk=>by rw [Zb8,Zlh hN hk];grind
 have h5:sumQ n (fun r=>(Z5 ws r:Rat) * (Zaz rs rr x m r * (Z5 rr r:Rat)))=Zjj rs rr ws x n m:=by
  have h6:sumQ n (fun r=>(Z5 ws r:Rat) * (Zaz rs rr x m r * (Z5 rr r:Rat)))=sumQ n (fun r=>(Z5 ws r:Rat) * ((Z5 rr r:Rat) * (Z5 rr r:Rat)) - sumQ m (fun k=>x k * ((Z5 ws r:Rat) * ((Zv rs k r:Rat) * (Z5 rr r:Rat))))):=Zm fun r _=>by
   have h2:sumQ m (fun k=>x k * ((Z5 ws r:Rat) * ((Zv rs k r:Rat) * (Z5 rr r:Rat))))=sumQ m (fun j=>(Zv rs j r:Rat) * x j) * ((Z5 ws r:Rat) * (Z5 rr r:Rat)):=by
    rw [<- Zb8]
    exact Zm fun j _=>by grind
   rw [h2];unfold Zaz
   grind
  rw [h6,Zg9];unfold Zjj;rw [<- Zer,Zek]
  congr 1
  refine Zm fun k _=>?_
  rw [Zer];have:=Zb8 (n:=n) (fun r=>(Z5 ws r:Rat) * ((Zv rs k r:Rat) * (Z5 rr r:Rat))) (x k);rw [show x k * sumQ n (fun r=>(Z5 ws r:Rat) * ((Zv rs k r:Rat) * (Z5 rr r:Rat)))=sumQ n (fun r=>(Z5 ws r:Rat) * ((Zv rs k r:Rat) * (Z5 rr r:Rat))) * x k by grind,<- this]
  exact Zm fun r _=>by grind
 rw [h1,Zg9,h3,h5]
 grind
end
def B40 (z:Int):Prop:=z.natAbs <= 1099511627776
theorem Zwc:1099511627776 <= pw 2:=by decide +kernel
section
variable {D M N:Nat} {q:Rat}
theorem CD.small (h:CD D M q) (hD:0 < D):q.num.natAbs <= M/\q.den <= D:=by
 obtain ⟨z,e,hz⟩:=h
 have hD0:((D:Int):Rat) ≠ 0:=by
  intro h0;have:=Rat.intCast_inj.1 (show ((D:Int):Rat)=((0:Int):Rat) by simpa using h0);omega
 have e2:((D:Int):Rat) * q=(z:Rat):=by
  have h2:((D:Int):Rat)=(D:Rat):=Rat.intCast_natCast D;rw [h2] at hD0 ⊢;rw [e]
  grind
 exact Ze4 ⟨z,e2,hz⟩ ⟨(D:Int),rfl,by simp⟩ hD0
theorem CD.sm (h:CD D M q) (hD:0 < D) {i j:Nat} (hM:M <= pw i) (hDj:D <= pw j) (hi:i < 1000) (hj:j < 1000):Sm q:=
 ⟨Nat.lt_of_le_of_lt (Nat.le_trans (h.small hD).1 hM) (Zb0 hi),Nat.lt_of_le_of_lt (Nat.le_trans (h.small hD).2 hDj) (Zb0 hj)⟩
theorem CD.liftL {E:Nat} (h:CD E M q) (hD:0 < D) (hE:E=1):CD D (M * D) q:=by
 subst hE;have:=h.lift hD
 rwa [Nat.one_mul] at this
theorem CD.zero:CD D M 0:=⟨0,by rw [show ((0:Int):Rat)=0 from rfl];grind,Nat.zero_le _⟩
theorem CD.sumQ {n:Nat} {f:Nat->Rat} (h:∀ i,i < n->CD D M (f i)):CD D (n * M) (sumQ n f):=by
 induction n with
 | zero=>exact CD.zero
 | succ n ih =>
  rw [Nat.succ_mul];exact (ih fun i hi=>h i (by omega)).add (h n (by omega))
end
theorem Zw5 {B n:Nat} {Q:Nat->Nat->Rat} {x y:Nat->Rat} (hQ:∀ a b,a < n->b < n->BndQ B (Q a b)) (hy:∀ a,a < n->BndQ B (y a)) (hE:∀ i,i < n->sumQ n (fun j=>Q i j * x j)=y i) (h0:Z1 n Q ≠ 0) :
    ∃ D,0 < D/\D <= Za1 B n/\∀ k,k < n->CD D (Za1 B n) (x k):=by
 obtain ⟨d,hd,hdb⟩:=Zgw hQ
 have hd0:d ≠ 0:=fun e=>h0 (by rw [hd,e];rfl)
 refine ⟨d.natAbs,by omega,hdb,fun k hk=>?_⟩;have hc:=Zou Q x y hE hk
 obtain ⟨z,hz,hzb⟩:=Zgw (B:=B) (n:=n) (M:=fun a b=>if b=k then y a else Q a b) (fun a b ha hb=>by
  show BndQ B (if b=k then y a else Q a b)
  by_cases h:b=k
  ·rw [if_pos h];exact hy a ha
  ·rw [if_neg h];exact hQ a b ha hb)
 rw [hz,hd] at hc
 have hdr:(d:Rat) ≠ 0:=fun e=>hd0 (by exact_mod_cast e)
 rcases Int.natAbs_eq d with h | h
 ·refine ⟨z,?_,hzb⟩
  have h1:((d.natAbs:Nat):Rat)=(d:Rat):=by rw [<- Rat.intCast_natCast,<- h]
  rw [h1,<- hc]
  grind
 ·refine ⟨-z,?_,by rw [Int.natAbs_neg];exact hzb⟩
  have h1:((d.natAbs:Nat):Rat)=-(d:Rat):=by
   rw [<- Rat.intCast_natCast,show ((d.natAbs:Nat):Int)=-d by omega,Rat.intCast_neg]
  rw [h1,Rat.intCast_neg,<- hc]
  grind
structure LeastP (rs:List RI) (rr ws:List Int) (x:Nat->Rat) (n m:Nat):Prop where
 xk:∀ k,k < m->Sm (x k)
 f:∀ r k,r < n->k < m->Sm ((Zv rs k r:Rat) * x k)
 res:∀ r t,r < n->t <= m->Sm (Zaz rs rr x t r)
 sq:∀ r,r < n->Sm (Zaz rs rr x m r * Zaz rs rr x m r)
 wsq:∀ r,r < n->Sm (Zaz rs rr x m r * Zaz rs rr x m r * (Z5 ws r:Rat))
 sum:∀ t,t <= n->Sm (Zby rs rr ws x m t)
 c:∀ k,k < m->Sm ((Za4 ws (Zv rs k) (Z5 rr) n:Int):Rat)
 xc:∀ k,k < m->Sm (x k * ((Za4 ws (Zv rs k) (Z5 rr) n:Int):Rat))
 Zec:∀ t,t <= m->Sm (Zjj rs rr ws x n t)
theorem Zs5 {ws:List Int} {a b:Nat->Int}:∀ (n:Nat),(∀ r,r < n->B40 (Z5 ws r)/\B40 (a r)/\B40 (b r))->(Za4 ws a b n).natAbs <= n * (1099511627776 * (1099511627776 * 1099511627776))
 | 0,_=>by simp [Za4]
 | n+1,h=>by
  have ih:=Zs5 n (fun r hr=>h r (by omega));obtain ⟨h1,h2,h3⟩:=h n (by omega)
  have h4:((Z5 ws n) * (a n * b n)).natAbs <= 1099511627776 * (1099511627776 * 1099511627776):=by
   rw [Int.natAbs_mul,Int.natAbs_mul];exact Nat.mul_le_mul h1 (Nat.mul_le_mul h2 h3)
  have h5:Za4 ws a b (n+1)=Za4 ws a b n+Z5 ws n * (a n * b n):=rfl;rw [h5,Nat.succ_mul];exact Nat.le_trans (Int.natAbs_add_le _ _) (Nat.add_le_add ih h4)
theorem Zu5:200 * (1099511627776 * (1099511627776 * 1099511627776)) <= pw 4:=by decide +kernel
theorem Zew {ws:List Int} {a b:Nat->Int} {n:Nat} (hn:n <= 200) (h:∀ r,r < n->B40 (Z5 ws r)/\B40 (a r)/\B40 (b r)):(Za4 ws a b n).natAbs <= pw 4:=
 Nat.le_trans (Zs5 n h) (Nat.le_trans (Nat.mul_le_mul hn (Nat.le_refl _)) Zu5)
theorem Zcb {a b i j:Nat} (ha:a <= pw i) (hb:b <= pw j):a * b <= pw (i+j):=by rw [Zdp];exact Nat.mul_le_mul ha hb
theorem Zkp {n:Nat} (h:n <= 4294967296):n <= pw 1:=by
 have:pw 1=4294967296:=by decide +kernel
 rw [this];exact h
theorem Zjy {rs:List RI} {rr ws:List Int} {x:Nat->Rat} {n m e D Z:Nat} (hn:n <= 200) (hm:m <= 200) (hD:0 < D) (hDe:D <= pw e) (hZe:Z <= pw e) (he:2 * e+20 < 1000) (hx:∀ k,k < m->CD D Z (x k))
    (ha:∀ r k,r < n->k < m->B40 (Zv rs k r)) (hb:∀ r,r < n->B40 (Z5 rr r)) (hw:∀ r,r < n->B40 (Z5 ws r)):LeastP rs rr ws x n m:=by
 have w40:∀ z:Int,B40 z->CD 1 (pw 2) (z:Rat):=fun z hz=>(CD.whole z).mono (Nat.le_trans hz Zwc)
 have hD2:D * D <= pw (e+e):=Zcb hDe hDe;have hDD:0 < D * D:=Nat.mul_pos hD hD
 have cf:∀ r k,r < n->k < m->CD D (pw (2+e)) ((Zv rs k r:Rat) * x k):=fun r k hr hk=>by
  have:=(w40 _ (ha r k hr hk)).mul (hx k hk);rw [Nat.one_mul] at this;exact this.mono (Zcb (Nat.le_refl _) hZe)
 have cres:∀ r t,r < n->t <= m->CD D (pw (e+4)) (Zaz rs rr x t r):=fun r t hr ht=>by
  unfold Zaz;have h1:=(w40 _ (hb r hr)).liftL hD rfl;have h2:=CD.sumQ (n:=t) (f:=fun k=>(Zv rs k r:Rat) * x k) (fun k hk=>cf r k hr (by omega));refine (h1.sub h2).mono ?_;have h3:pw 2 * D <= pw (e+3):=Nat.le_trans (Zcb (Nat.le_refl _) hDe) (Zbk (by omega));have h4:t * pw (2+e) <= pw (e+3):=Nat.le_trans (Zcb (Zkp (show t <= 4294967296 by omega)) (Nat.le_refl _)) (Zbk (by omega));exact Nat.le_trans (Nat.add_le_add h3 h4) (Zig (e+3))
 have csq:∀ r,r < n->CD (D * D) (pw (e+4+(e+4))) (Zaz rs rr x m r * Zaz rs rr x m r):=fun r hr =>
  ((cres r m hr (Nat.le_refl _)).mul (cres r m hr (Nat.le_refl _))).mono (Zcb (Nat.le_refl _) (Nat.le_refl _))
 have cw:∀ r,r < n->CD (D * D) (pw (e+4+(e+4)+2)) (Zaz rs rr x m r * Zaz rs rr x m r * (Z5 ws r:Rat)):=fun r hr=>by
  have:=(csq r hr).mul (w40 _ (hw r hr));rw [Nat.mul_one] at this;exact this.mono (Zcb (Nat.le_refl _) (Nat.le_refl _))
 have csum:∀ t,t <= n->CD (D * D) (pw (1+(e+4+(e+4)+2))) (Zby rs rr ws x m t):=fun t ht =>
  (CD.sumQ (n:=t) (f:=fun r=>Zaz rs rr x m r * Zaz rs rr x m r * (Z5 ws r:Rat)) (fun r hr=>cw r (by omega))).mono (Zcb (Zkp (by omega)) (Nat.le_refl _))
 have cc:∀ a b:Nat->Int,(∀ r,r < n->B40 (a r)/\B40 (b r))->CD 1 (pw 4) ((Za4 ws a b n:Int):Rat):=fun a b h=>(CD.whole _).mono (Zew hn fun r hr=>⟨hw r hr,h r hr⟩)
 have cxc:∀ k,k < m->CD D (pw (e+4)) (x k * ((Za4 ws (Zv rs k) (Z5 rr) n:Int):Rat)):=fun k hk=>by
  have:=(hx k hk).mul (cc (Zv rs k) (Z5 rr) (fun r hr=>⟨ha r k hr hk,hb r hr⟩));rw [Nat.mul_one] at this;exact this.mono (Zcb hZe (Nat.le_refl _))
 have cleft:∀ t,t <= m->CD D (pw (e+6)) (Zjj rs rr ws x n t):=fun t ht=>by
  unfold Zjj;have h1:=(cc (Z5 rr) (Z5 rr) (fun r hr=>⟨hb r hr,hb r hr⟩)).liftL hD rfl;have h2:=CD.sumQ (n:=t) (f:=fun k=>x k * ((Za4 ws (Zv rs k) (Z5 rr) n:Int):Rat)) (fun k hk=>cxc k (by omega));refine (h1.sub h2).mono ?_;have h3:pw 4 * D <= pw (e+5):=Nat.le_trans (Zcb (Nat.le_refl _) hDe) (Zbk (by omega));have h4:t * pw (e+4) <= pw (e+5):=Nat.le_trans (Zcb (Zkp (show t <= 4294967296 by omega)) (Nat.le_refl _)) (Zbk (by omega));exact Nat.le_trans (Nat.add_le_add h3 h4) (Zig (e+5))
 refine ⟨fun k hk=>(hx k hk).sm hD hZe hDe (by omega) (by omega),fun r k hr hk=>(cf r k hr hk).sm hD (Nat.le_refl _) hDe (by omega) (by omega),fun r t hr ht=>(cres r t hr ht).sm hD (Nat.le_refl _) hDe (by omega) (by omega),
  fun r hr=>(csq r hr).sm hDD (Nat.le_refl _) hD2 (by omega) (by omega),fun r hr=>(cw r hr).sm hDD (Nat.le_refl _) hD2 (by omega) (by omega),fun t ht=>(csum t ht).sm hDD (Nat.le_refl _) hD2 (by omega) (by omega),
  fun k hk=>(cc (Zv rs k) (Z5 rr) (fun r hr=>⟨ha r k hr hk,hb r hr⟩)).sm (by omega) (Nat.le_refl _) (Zbt 0) (by omega) (by omega),fun k hk=>(cxc k hk).sm hD (Nat.le_refl _) hDe (by omega) (by omega),fun t ht=>(cleft t ht).sm hD (Nat.le_refl _) hDe (by omega) (by omega)⟩
end Go.Proofs.YtigdclhagmnopaaGreat
