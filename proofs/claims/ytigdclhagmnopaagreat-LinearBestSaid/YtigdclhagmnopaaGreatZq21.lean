/- Package linear: mul, sub, div, zero. Package wide: Add. -/
import Derived.RangeFuncNested
import Derived.Test.YtigdclhagmnopaaGreatZq20
set_option maxRecDepth 100000
set_option maxHeartbeats 8000000
set_option linter.unusedSimpArgs false
set_option linter.unusedVariables false
namespace Go.Proofs.YtigdclhagmnopaaGreat
open Go.RowKit
attribute [local go_sem] Zh
theorem Zc5 (na nb:Bool) (A B:Option Addr) (n c m d:Nat) (a b:Int) (w:World) (ha:Wd w na A n c a) (hb:Wd w nb B m d b) (hs:(a * b).natAbs < pw 4096) :
    Calls Tryz.prog 97 #[.agg #[.bool na,.slice A n c],.agg #[.bool nb,.slice B m d]] w (NumW w (a * b)):=by
 obtain ⟨W0,hW0,hB0,⟨q0,q1,q2⟩,s0⟩:=Zcy w 43 #[.bool na,.slice A n c] 43 #[.bool nb,.slice B m d] 43 #[.bool false,.slice none 0 0];have hA:=ha.below hB0;have hD:=hb.below hB0;have hC:=Za (Zif na nb A B n c m d a b W0 hA hD);clear ha hb hA hD;obtain ⟨a0,a1,-⟩:=q0.two;obtain ⟨b0,b1,-⟩:=q1.two;replace q2:=Za q2;replace hs:=Za hs;clear q0 q1;go_enter Tryz.func97,Tryz.ntmps97;go_wp2_with fail;refine hC.out.mono ?_;rintro e w1 ⟨hb1,n2,A2,k2,c2,code,rfl,hR⟩;have hN:=hR.small hs.out;have hB1:=hB0.trans (hb1.mono hB0.size);have s1:=hb1.size;have q3:=Zc hb1 q2.out;clear hb1 a0 a1 b0 b1 hW0 hR hC q2;obtain ⟨V,hV,hBV,qv,kW,kB,sV⟩:=Zr 43 #[.bool n2,.slice A2 k2 c2] hB1 hB1.size;have q4:=kB _ _ _ q3;have hN2:=Za (kW _ _ _ _ _ hN);clear kW kB hN;obtain ⟨v0,v1,v2,v3⟩:=qv.two;obtain ⟨r0,r1,r2,r3⟩:=q4.two;go_wp2_with fail;obtain ⟨X,hX,hBX,q5,st⟩:=Zav n2 A2 k2 c2 hBV (by omega) q4;(try rw [hX]);obtain ⟨y0,y1,-⟩:=q5.two;refine bodyPost_ret (v:=.agg #[.bool n2,.slice A2 k2 c2]) (by simp [results,Tryz.results97,go_sem,y0,y1]) rfl ?_;exact ⟨hBX,_,_,_,_,rfl,st.1 _ _ _ _ _ hN2.out⟩
theorem lsub_ok (na nb:Bool) (A B:Option Addr) (n c m d:Nat) (a b:Int) (w:World) (ha:Wd w na A n c a) (hb:Wd w nb B m d b) (hs:(a - b).natAbs < pw 4096) :
    Calls Tryz.prog 100 #[.agg #[.bool na,.slice A n c],.agg #[.bool nb,.slice B m d]] w (NumW w (a - b)):=by
 obtain ⟨W0,hW0,hB0,⟨q0,q1,q2⟩,s0⟩:=Zcy w 43 #[.bool na,.slice A n c] 43 #[.bool nb,.slice B m d] 43 #[.bool false,.slice none 0 0];have hA:=ha.below hB0;have hD:=hb.below hB0;have hC:=Za (Zwe na nb A B n c m d a b W0 hA hD);clear ha hb hA hD;obtain ⟨a0,a1,-⟩:=q0.two;obtain ⟨b0,b1,-⟩:=q1.two;replace q2:=Za q2;replace hs:=Za hs;clear q0 q1;go_enter Tryz.func100,Tryz.ntmps100;go_wp2_with fail;refine hC.out.mono ?_;rintro e w1 ⟨hb1,n2,A2,k2,c2,code,rfl,hR⟩;have hN:=hR.small hs.out;have hB1:=hB0.trans (hb1.mono hB0.size);have s1:=hb1.size;have q3:=Zc hb1 q2.out;clear hb1 a0 a1 b0 b1 hW0 hR hC q2;obtain ⟨V,hV,hBV,qv,kW,kB,sV⟩:=Zr 43 #[.bool n2,.slice A2 k2 c2] hB1 hB1.size;have q4:=kB _ _ _ q3;have hN2:=Za (kW _ _ _ _ _ hN);clear kW kB hN;obtain ⟨v0,v1,v2,v3⟩:=qv.two;obtain ⟨r0,r1,r2,r3⟩:=q4.two;go_wp2_with fail;obtain ⟨X,hX,hBX,q5,st⟩:=Zav n2 A2 k2 c2 hBV (by omega) q4;(try rw [hX]);obtain ⟨y0,y1,-⟩:=q5.two;refine bodyPost_ret (v:=.agg #[.bool n2,.slice A2 k2 c2]) (by simp [results,Tryz.results100,go_sem,y0,y1]) rfl ?_;exact ⟨hBX,_,_,_,_,rfl,st.1 _ _ _ _ _ hN2.out⟩
theorem Zn7 (na nb:Bool) (A B:Option Addr) (n c m d:Nat) (a b:Int) (w:World) (ha:Wd w na A n c a) (hb:Wd w nb B m d b) (h0:b ≠ 0) :
    Calls Tryz.prog 98 #[.agg #[.bool na,.slice A n c],.agg #[.bool nb,.slice B m d]] w (NumW w (Int.fdiv a b)):=by
 obtain ⟨W0,hW0,hB0,⟨q0,q1,q2⟩,s0⟩:=Zcy w 43 #[.bool na,.slice A n c] 43 #[.bool nb,.slice B m d] 43 #[.bool false,.slice none 0 0];have hA:=ha.below hB0;have hD:=hb.below hB0;have hC:=Za (Zfm na nb A B n c m d a b W0 hA hD h0);clear ha hb hA hD;obtain ⟨a0,a1,-⟩:=q0.two;obtain ⟨b0,b1,-⟩:=q1.two;replace q2:=Za q2;replace h0:=Za h0;clear q0 q1;go_enter Tryz.func98,Tryz.ntmps98;go_wp2_with fail;refine hC.out.mono ?_;rintro e w1 ⟨hb1,n2,A2,k2,c2,n3,A3,k3,c3,rfl,hN,-⟩;have hB1:=hB0.trans (hb1.mono hB0.size);have s1:=hb1.size;have q3:=Zc hb1 q2.out;clear hb1 a0 a1 b0 b1 hW0 hC q2;obtain ⟨V,hV,hBV,qv,kW,kB,sV⟩:=Zr 43 #[.bool n2,.slice A2 k2 c2] hB1 hB1.size;have q4:=kB _ _ _ q3;have hN2:=kW _ _ _ _ _ hN;clear kW kB hN;obtain ⟨V2,hV2,hBV2,qv2,kW,kB,sV2⟩:=Zr 43 #[.bool n3,.slice A3 k3 c3] hBV (by omega);replace q4:=kB _ _ _ q4;replace qv:=kB _ _ _ qv;replace hN2:=Za (kW _ _ _ _ _ hN2);clear kW kB;obtain ⟨v0,v1,v2,v3⟩:=qv.two;obtain ⟨r0,r1,r2,r3⟩:=q4.two;rw [<- hV] at hV2;rw [<- hV2] at v0 v1 v2 v3 r0 r1 r2 r3;replace hV2:=Za hV2;clear hV;go_wp2_with fail;(try rw [hV2.out]);obtain ⟨X,hX,hBX,q5,st⟩:=Zav n2 A2 k2 c2 hBV2 (by omega) q4;(try rw [hX]);obtain ⟨y0,y1,-⟩:=q5.two;refine bodyPost_ret (v:=.agg #[.bool n2,.slice A2 k2 c2]) (by simp [results,Tryz.results98,go_sem,y0,y1]) rfl ?_;exact ⟨hBX,_,_,_,_,rfl,st.1 _ _ _ _ _ hN2.out⟩
theorem Zjw (neg:Bool) (A:Option Addr) (n c:Nat) (w:World) (hn:n <= 1000000000) (b:Bool) (hb:((n:Int) == 0)=b) :
    Calls Tryz.prog 57 #[.agg #[.bool neg,.slice A n c]] w fun e w'=>e=.returned (.bool b)/\Below w.heap.size w w':=by
 go_enter Tryz.func57,Tryz.ntmps57;go_wp2_with fail;go_ret;exact ⟨rfl,by go_grown⟩
theorem Zsd (na nb:Bool) (A B:Option Addr) (n c m d:Nat) (za zb:Int) (w:World) (ha:Wd w na A n c za) (hb:Wd w nb B m d zb) :
    Calls Tryz.prog 126 #[.agg #[.bool na,.slice A n c],.agg #[.bool nb,.slice B m d]] w (ResW w (za+zb)):=by
 have hLa:=ha.lim;have hLb:=hb.lim;have hn:=ha.2.1;have hm:=hb.2.1
 have hB0:∀ X Y Z V:Obj,Below w.heap.size w ((((w.alloc X).alloc Y).alloc Z).alloc V):=fun X Y Z V=>((((Below.refl w.heap.size w).alloc (Nat.le_refl _) _).alloc (by simp) _).alloc (by simp;omega) _).alloc (by simp;omega) _
 have hW:∀ X Y Z t,WL ((((w.alloc X).alloc Y).alloc Z).alloc (.cells #[.bool na,.slice A n c,.bool nb,.slice B m d] t)) (some ⟨w.heap.size+1+1+1,0,none⟩) 2 2 [⟨na,A,n,c,digits za.natAbs⟩,⟨nb,B,m,d,digits zb.natAbs⟩]:=fun X Y Z t=>by
  have:=WL.two (neg:=na) (neg':=nb) (((hLa.alloc X).alloc Y).alloc Z) (((hLb.alloc X).alloc Y).alloc Z) t;simp only [World.size_alloc] at this;exact this
 have hW:=Za hW;have hB0:=Za hB0;have hgood:Hid (okW na (digits za.natAbs)=true/\okW nb (digits zb.natAbs)=true):=⟨ha.ok,hb.ok⟩;have hza:=Za ha.sgEq;have hzb:=Za hb.sgEq;clear ha hb;go_enter Tryz.func126,Tryz.ntmps126;go_wp2_with fail;refine (Zdm (hW.out _ _ _ _) (by have:=hgood.out;simp [WE.ok,this])).mono ?_;rintro e w1 ⟨rfl,hb1⟩;obtain ⟨hc1,hf1⟩:=Zck hb1
 have hz1:w.heap.size+1+1+1 < w1.heap.size:=by have:=hb1.size;simp at this;omega
 have hB1:Below w.heap.size w w1:=(hB0.out _ _ _ _).trans (hb1.mono (by simp;omega))
 have g0:w1.cell? ⟨w.heap.size,0,none⟩=some (.bool na):=by simp [hc1,go_sem]
 have g1:w1.cell? ⟨w.heap.size,1,none⟩=some (.slice A n c):=by simp [hc1,go_sem]
 have g2:w1.cell? ⟨w.heap.size+1,0,none⟩=some (.bool nb):=by simp [hc1,go_sem]
 have g3:w1.cell? ⟨w.heap.size+1,1,none⟩=some (.slice B m d):=by simp [hc1,go_sem]
 have gf:w1.frozen? ⟨w.heap.size+1,0,none⟩=false:=by simp [hf1,go_sem]
 have gB:Blk w1 (w.heap.size+1) 43 #[.bool nb,.slice B m d]:=by
  refine Zc hb1 ((Blk.alloc (Blk.alloc ?_ _) _));have:=Blk.new (w.alloc (.cells #[.bool na,.slice A n c] 43)) 43 #[.bool nb,.slice B m d];simp only [World.size_alloc] at this;exact this
 have g7:Blk w1 (w.heap.size+1+1) 43 #[.bool false,.slice none 0 0]:=by
  refine Zc hb1 (Blk.alloc ?_ _);have:=Blk.new ((w.alloc (.cells #[.bool na,.slice A n c] 43)).alloc (.cells #[.bool nb,.slice B m d] 43)) 43 #[.bool false,.slice none 0 0];simp only [World.size_alloc] at this;exact this
 have hLa1:=hLa.below hB1;have hLb1:=hLb.below hB1;have HB:=Za gB;clear gB hc1 hf1;go_wp2_with fail;refine (Zs8 _ _ _ _ _ _ _ _ _ _ _ (by exact hLa1) (by exact hLb1) hn hm).mono ?_;rintro e w2 ⟨hb2,neg2,A2,n2,c2,code2,rfl,hR2⟩;have hB2:Below w.heap.size w w2:=hB1.trans (hb2.mono hB1.size);have m7:=Zc hb2 g7;have m3:=m7.cell 0;have m4:=m7.cell 1;have m5:=m7.frozen 0;have m6:=m7.frozen 1
 simp at m3 m4
 have HM:=Za m7;clear m7;go_wp2_with fail
 have HZ:sg na za.natAbs+sg nb zb.natAbs=za+zb:=by
  have h1:=hza.out;have h2:=hzb.out;rw [Zi] at h1 h2;rw [h1,h2]
 refine bodyPost_ret (v:=.tuple #[.agg #[.bool neg2,.slice A2 n2 c2],.int .i64 code2]) (by simp [results,Tryz.results126,go_sem,m3,m4]) rfl ?_;exact ResW.box (HZ ▸ hR2) hB2 (by omega) HM.out
attribute [local go_sem] Zh Oper.semAt_some
def Za4 (ws:List Int) (a b:Nat->Int):Nat->Int
 | 0=>0
 | i+1=>Za4 ws a b i+(ws[i]?.getD 0) * (a i * b i)
def Zhx (v:Value) (z:Int) (w:World):Prop:=∃ na A n c,v=.agg #[.bool na,.slice A n c]/\Wd w na A n c z
def numT (v:Value) (z:Int) (w:World):Prop:=∃ na A n c,v=.tuple #[.agg #[.bool na,.slice A n c],.int .i64 0]/\Wd w na A n c z
theorem Zc7 {v:Value} {z:Int} {w w':World} (hb:Below w.heap.size w w') (h:Zhx v z w):Zhx v z w':=by
 obtain ⟨na,A,n,c,e,hf⟩:=h;exact ⟨na,A,n,c,e,hf.below hb⟩
theorem Zsc {v:Value} {z:Int} {w w':World} (hb:Below w.heap.size w w') (h:numT v z w):numT v z w':=by
 obtain ⟨na,A,n,c,e,hf⟩:=h;exact ⟨na,A,n,c,e,hf.below hb⟩
def Zc1 (x a b s:Int) (i:Nat) (v:Value) (w:World):Prop:=
 if i=2 then Zhx v x w else if i=5 then v=.int .i64 a else if i=6 then Zhx v a w else if i=9 then v=.int .i64 b else if i=10 then Zhx v b w
 else if i=11 then Zhx v (a * b) w else if i=12 then Zhx v (x * (a * b)) w else if i=13 \/ i=14 then numT v (s+x * (a * b)) w else if i=15 then Zhx v (s+x * (a * b)) w else if i=16 then v=.int .i64 0 else True
theorem Zkz {x a b s:Int} {i:Nat} {v:Value} {w w':World} (hb:Below w.heap.size w w') (h:Zc1 x a b s i v w):Zc1 x a b s i v w':=by
 unfold Zc1 at h ⊢
 split at h
 ·rename_i e;rw [if_pos e];exact Zc7 hb h
 rename_i e;rw [if_neg e];clear e
 split at h
 ·rename_i e;rw [if_pos e];exact h
 rename_i e;rw [if_neg e];clear e
 split at h
 ·rename_i e;rw [if_pos e];exact Zc7 hb h
 rename_i e;rw [if_neg e];clear e
 split at h
 ·rename_i e;rw [if_pos e];exact h
 rename_i e;rw [if_neg e];clear e
 split at h
 ·rename_i e;rw [if_pos e];exact Zc7 hb h
 rename_i e;rw [if_neg e];clear e
 split at h
 ·rename_i e;rw [if_pos e];exact Zc7 hb h
 rename_i e;rw [if_neg e];clear e
 split at h
 ·rename_i e;rw [if_pos e];exact Zc7 hb h
 rename_i e;rw [if_neg e];clear e
 split at h
 ·rename_i e;rw [if_pos e];exact Zsc hb h
 rename_i e;rw [if_neg e];clear e
 split at h
 ·rename_i e;rw [if_pos e];exact Zc7 hb h
 rename_i e;rw [if_neg e];clear e
 split at h
 ·rename_i e;rw [if_pos e];exact h
 rename_i e;rw [if_neg e];trivial
def Zd8 (B0:Nat) (q:Rat) (i:Nat) (v:Value) (w:World):Prop:=
 if i=1 then Zhx v 1 w else Zaa B0 q 2 3 4 5 6 5 i v w
theorem Zl2 {B0:Nat} {q:Rat} {i:Nat} {v:Value} {w w':World} (hb:Below w.heap.size w w') (h:Zd8 B0 q i v w):Zd8 B0 q i v w':=by
 unfold Zd8 at h ⊢
 split at h
 ·rename_i e;rw [if_pos e];exact Zc7 hb h
 ·rename_i e;rw [if_neg e];exact Ze0 hb h
theorem Zok {z:Int} (h:I64 z):z.natAbs <= 9223372036854775808:=by unfold I64 at h;omega
theorem big6:9223372036854775808 * (9223372036854775808 * 9223372036854775808) * 1000 < pw 4096:=
 Nat.lt_of_lt_of_le (show _ < pw 7 from by decide) (Zbk (by decide))
theorem Zm7 {a b:Int} (ha:I64 a) (hb:I64 b):(a * b).natAbs <= 9223372036854775808 * 9223372036854775808:=by
 rw [Int.natAbs_mul];exact Nat.mul_le_mul (Zok ha) (Zok hb)
theorem Zkm {x a b:Int} (hx:I64 x) (ha:I64 a) (hb:I64 b):(x * (a * b)).natAbs <= 9223372036854775808 * (9223372036854775808 * 9223372036854775808):=by
 rw [Int.natAbs_mul];exact Nat.mul_le_mul (Zok hx) (Zm7 ha hb)
theorem Zwk {a b:Int} (ha:I64 a) (hb:I64 b):(a * b).natAbs < pw 4096:=
 Nat.lt_of_le_of_lt (Zm7 ha hb) (Nat.lt_trans (by decide) big6)
theorem Zq1 {x a b:Int} (hx:I64 x) (ha:I64 a) (hb:I64 b):(x * (a * b)).natAbs < pw 4096:=
 Nat.lt_of_le_of_lt (Zkm hx ha hb) (Nat.lt_trans (by decide) big6)
theorem Zco {l:List Int} (h:∀ x ∈ l,I64 x) (i:Nat):I64 (l[i]?.getD 0):=by
 rcases Nat.lt_or_ge i l.length with h1 | h1
 ·rw [List.getElem?_eq_getElem h1];exact h _ (List.getElem_mem _)
 ·rw [List.getElem?_eq_none h1];unfold I64;decide
theorem Znc {ws:List Int} {a b:Nat->Int} (hw:∀ x ∈ ws,I64 x):∀ (i:Nat),(∀ j,j < i->I64 (a j)/\I64 (b j))->(Za4 ws a b i).natAbs <= 9223372036854775808 * (9223372036854775808 * 9223372036854775808) * i
 | 0,_=>by simp [Za4]
 | i+1,h=>by
  have h1:=Znc hw i (fun j hj=>h j (by omega));have h2:=Zkm (Zco hw i) (h i (by omega)).1 (h i (by omega)).2;have h3:=Int.natAbs_add_le (Za4 ws a b i) ((ws[i]?.getD 0) * (a i * b i));rw [Nat.mul_add,Nat.mul_one];show (Za4 ws a b i+(ws[i]?.getD 0) * (a i * b i)).natAbs <= _;exact Nat.le_trans h3 (Nat.add_le_add h1 h2)
theorem Zsx {ws:List Int} {a b:Nat->Int} (hw:∀ x ∈ ws,I64 x) {i:Nat} (hi:i <= 1000) (h:∀ j,j < i->I64 (a j)/\I64 (b j)):(Za4 ws a b i).natAbs < pw 4096:=
 Nat.lt_of_le_of_lt (Znc hw i h) (Nat.lt_of_le_of_lt (Nat.mul_le_mul_left _ hi) big6)
theorem Wd.same {w:World} {na:Bool} {A:Option Addr} {n c:Nat} {y z:Int} (h:Wd w na A n c y) (e:y=z):Wd w na A n c z:=e ▸ h
theorem Zgk (z:Int):Rat.divInt z 1=(z:Rat):=by
 have h:=Rat.num_divInt_den ((z:Int):Rat);rw [Rat.num_intCast,Rat.den_intCast] at h;exact h
theorem dot2 {x a b s:Int} {v:Value} {w:World} (h:Zc1 x a b s 2 v w):Zhx v x w:=h
theorem dot5 {x a b s:Int} {v:Value} {w:World} (h:Zc1 x a b s 5 v w):v=.int .i64 a:=h
theorem dot6 {x a b s:Int} {v:Value} {w:World} (h:Zc1 x a b s 6 v w):Zhx v a w:=h
theorem dot9 {x a b s:Int} {v:Value} {w:World} (h:Zc1 x a b s 9 v w):v=.int .i64 b:=h
theorem Zte {x a b s:Int} {v:Value} {w:World} (h:Zc1 x a b s 10 v w):Zhx v b w:=h
theorem Zs2 {x a b s:Int} {v:Value} {w:World} (h:Zc1 x a b s 11 v w):Zhx v (a * b) w:=h
theorem Zsz {x a b s:Int} {v:Value} {w:World} (h:Zc1 x a b s 12 v w):Zhx v (x * (a * b)) w:=h
theorem Zs3 {x a b s:Int} {v:Value} {w:World} (h:Zc1 x a b s 13 v w):numT v (s+x * (a * b)) w:=h
theorem dot14 {x a b s:Int} {v:Value} {w:World} (h:Zc1 x a b s 14 v w):numT v (s+x * (a * b)) w:=h
theorem dot15 {x a b s:Int} {v:Value} {w:World} (h:Zc1 x a b s 15 v w):Zhx v (s+x * (a * b)) w:=h
theorem dot16 {x a b s:Int} {v:Value} {w:World} (h:Zc1 x a b s 16 v w):v=.int .i64 0:=h
theorem end1 {B0:Nat} {q:Rat} {v:Value} {w:World} (h:Zd8 B0 q 1 v w):Zhx v 1 w:=h
theorem Zwx (Fa Fb:FuncId) (v0 v1 u0 u1:Value) (A:Option Addr) (n c:Nat) (ws:List Int) (a b:Nat->Int) (w:World) (h:LimI w A n c ws) (hn:n <= 900)
    (ha:∀ i,i < n->I64 (a i)) (hb:∀ i,i < n->I64 (b i))
    (hca:∀ (x:Value) (W:World),(callFunc Fa #[x,v0,v1]).run Tryz.prog W=.ok (.enter Fa #[x,v0,v1]) W)
    (hcb:∀ (x:Value) (W:World),(callFunc Fb #[x,u0,u1]).run Tryz.prog W=.ok (.enter Fb #[x,u0,u1]) W)
    (hA:∀ (W:World) (i:Nat),Below w.heap.size w W->i < n->Calls Tryz.prog Fa #[.int .i64 i,v0,v1] W fun e W'=>e=.returned (.int .i64 (a i))/\Below W.heap.size W W')
    (hB:∀ (W:World) (i:Nat),Below w.heap.size w W->i < n->Calls Tryz.prog Fb #[.int .i64 i,u0,u1] W fun e W'=>e=.returned (.int .i64 (b i))/\Below W.heap.size W W') :
    Calls Tryz.prog 115 #[.slice A n c,.func (.func Fa) #[] #[v0,v1],.func (.func Fb) #[] #[u0,u1]] w (Zff w ((Za4 ws a b n:Int):Rat)):=by
 have hmx:Tryz.prog.follows .mixedOrders=true:=by kernel_rfl
 have hwsl:=h.1;have hnc:=h.2.1;have hcm:=h.2.2.1;unfold maxLen at hcm;have hws:=Za h.2.2.2.1;have hg:=Za h.2.2.2.2;replace hA:=Za hA;replace hB:=Za hB;have haa:=Za ha;have hbb:=Za hb;clear h ha hb;obtain ⟨W0,hW0,hB0,⟨q0,q1⟩,s0⟩:=Zf5 w 45 #[.bool false,.slice none 0 0,.bool false,.slice none 0 0] 43 #[.bool false,.slice none 0 0];obtain ⟨gr,hgr'⟩:∃ g,w.heap.size=g:=⟨_,rfl⟩;rw [hgr'] at q0 q1;obtain ⟨gs,hgs'⟩:∃ g,gr+1=g:=⟨_,rfl⟩;rw [hgs'] at q1
 have hgr:w.heap.size <= gr:=by omega
 have hgs:w.heap.size <= gs:=by omega
 have hgrs:gr ≠ gs:=by omega
 have hz0:Wd W0 false none 0 0 0:=Wd.zero _;go_enter Tryz.func115,Tryz.ntmps115;go_wp2_with fail;(try rw [hW0]);(try rw [hgr']);(try rw [hgs']);replace hgr':=Za hgr';replace hgs':=Za hgs';clear hW0 s0
 go_loopw [14] (fun iv wr=>∃ (i:Nat) (sn:Bool) (sA:Option Addr) (sk sc:Nat),i <= n/\iv=.int .i64 i/\Wd wr sn sA sk sc (Za4 ws a b i)/\Blk wr gs 43 #[.bool sn,.slice sA sk sc]/\Blk wr gr 45 #[.bool false,.slice none 0 0,.bool false,.slice none 0 0]/\Below w.heap.size w wr) (fun iv _=>n - (intOf iv).toNat)
 case atStart=>exact ⟨0,false,none,0,0,Nat.zero_le _,rfl,hz0,q1,q0,hB0⟩
 case round =>
  clear q0 q1 hB0 hz0;obtain ⟨i,sn,sA,sk,sc,hik,rfl,hs,qs,qr,hBp⟩:=hrel;obtain ⟨s0,s1,s2,s3⟩:=qs.two;replace hs:=Za hs;replace qs:=Za qs;replace qr:=Za qr
  by_cases hin:i < n
  case neg =>
   obtain rfl:n=i:=by omega
   have htk:decide ((n:Int) < (n:Int))=false:=by simp
   generalize Za4 ws a b n=D at *
   go_wp2_with fail;have hSv2:Hid (∀ wx,Below wr.heap.size wr wx->wx.cell? ⟨gs,0,none⟩=some (.bool sn)/\wx.cell? ⟨gs,1,none⟩=some (.slice sA sk sc)):=Za (fun wx hbx=>⟨Zb hbx s0,Zb hbx s1⟩);have hr2:Below wr.heap.size wr wr.drew:=Zf (Below.refl _ _) 1;refine wp_heldS [] hmx hSv2 hr2 (fun hxs2=>?_);refine Zi4 1 [0] rfl (by kernel_rfl) (hSv2.out _ hr2) ?_
   (refine tk1 (v:=?_) rfl (Or.inl ⟨by kernel_rfl,?_⟩) ?_;rotate_left;(· intro W2 hSw;(try dsimp only at hSw);go_simp;try with_reducible rfl);try simp only [Act.put,Zgj,Zfx,Zge,putG_a,putG_s,putG_z])
   refine tk0 ?_;refine Zbm [(1,39),(2,40),(3,37),(4,41),(6,10)] (fun i=>match i with | 3=>[5] | _=>[]) [(1,39),(2,40),(3,37),(5,42),(4,41),(6,10)] (Zd8 wr.heap.size (D:Rat)) 2 (by kernel_rfl) (fun _ _ _ _ _ hb h=>Zl2 hb h) (fun wx h=>hSv2.out _ (hr2.trans (h.mono hr2.size))) ?hop2 ?hfin2
   case hop2 =>
    intro p hp;simp only [List.mem_cons,List.not_mem_nil,or_false] at hp;simp only [List.map_cons,List.map_nil,Zaw,Act.put,Zgj,Zfx,Zge]
    rcases hp with rfl | rfl | rfl | rfl | rfl
    ·intro ν wx hb hP
     refine Zl (i:=1) rfl (fun K hK=>?_);go_simp;refine (Za5 1 wx (by decide) (by decide)).mono ?_;rintro e w5 ⟨hb5,na5,A5,k5,c5,rfl,hf5⟩;exact hK.out _ _ ⟨_,rfl,(by simp only [Zd8,Zaa];exact ⟨_,_,_,_,rfl,hf5⟩),hb5,trivial⟩
    ·intro ν wx hb hP
     have hbx:=hr2.trans (hb.mono hr2.size);have h3:=end1 (hP (1,39) (by simp) (by kernel_rfl));obtain ⟨na3,A3,k3,c3,hν3,hf3⟩:=h3;rw [hν3];obtain rfl:na3=false:=hf3.1;refine Zl (i:=2) rfl (fun K hK=>?_);go_simp;refine (Zc4 sn sA A3 sk sc k3 c3 D 1 wx (hs.out.below hbx) hf3 (by decide)).mono ?_;rintro e w5 ⟨hb5,na5,A5,k5,c5,nb5,B5,m5,d5,rfl,hf5⟩;rw [Zgk] at hf5;exact hK.out _ _ ⟨_,rfl,(by simp only [Zd8,Zaa];exact ⟨_,_,_,_,_,_,_,_,rfl,hf5⟩),hb5,trivial⟩
    ·intro ν wx hb hP
     have h0:=hP (2,40) (by simp) (by kernel_rfl);simp only [Zd8,Zaa] at h0;obtain ⟨na5,A5,k5,c5,nb5,B5,m5,d5,hν,hf5⟩:=h0;rw [hν];refine Zl (i:=3) rfl (fun K hK=>?_);go_simp;refine hK.out _ _ ⟨_,rfl,(by simp only [Zd8,Zaa];exact ⟨_,_,_,_,_,_,_,_,rfl,hf5⟩),Below.refl _ _,?_⟩;exact ⟨_,.int .i64 0,rfl,Or.inl ⟨by kernel_rfl,fun W2 _=>by go_simp⟩,by simp [Zd8,Zaa],trivial⟩
    ·intro ν wx hb hP
     have h0:=hP (3,37) (by simp) (by kernel_rfl);simp only [Zd8,Zaa] at h0;obtain ⟨na5,A5,k5,c5,nb5,B5,m5,d5,hν,hf5⟩:=h0;rw [hν];refine Zl (i:=4) rfl (fun K hK=>?_);go_simp;exact hK.out _ _ ⟨_,rfl,(by simp only [Zd8,Zaa];exact ⟨_,_,_,_,_,_,_,_,rfl,hf5⟩),Below.refl _ _,trivial⟩
    ·intro ν wx hb hP
     refine Zl (i:=6) rfl (fun K hK=>?_);go_simp;exact hK.out _ _ ⟨_,rfl,(by simp only [Zd8,Zaa];exact ⟨_,rfl,(hr2.trans (hb.mono hr2.size)).size,Blk.new _ _ _⟩),(Below.refl _ _).alloc (Nat.le_refl _) _,trivial⟩
   case hfin2 =>
    intro ν wx hb hP;have h0:=end1 (hP (1,39) (by simp));have h1:=hP (2,40) (by simp);have h2:=hP (3,37) (by simp);have h3:=hP (5,42) (by simp);have h4:=hP (4,41) (by simp);have h5:=hP (6,10) (by simp);simp only [Zd8,Zaa] at h1 h2 h4 h5;obtain ⟨_,_,_,_,h0,-⟩:=h0;obtain ⟨_,_,_,_,_,_,_,_,h1,-⟩:=h1;obtain ⟨_,_,_,_,_,_,_,_,h2,-⟩:=h2;obtain ⟨fn,fA,fk,fc,fm,fB,fj,fd,h4,hff⟩:=h4;obtain ⟨gv,h5,kv,qv⟩:=h5;simp only [List.map_cons,List.map_nil,Zaw,Act.put,Zgj,Zfx,Zge];rw [h0,h1,h2,(show ν 42=Value.int .i64 0 by simpa [Zd8,Zaa] using h3),h4,h5];clear h0 h1 h2 h3 h4 h5 hP ν;have hbx:=hr2.trans (hb.mono hr2.size);have qr6:=Zc hbx qr.out
    have hgrv:gr ≠ gv:=by have:=qr.out.lt;omega
    obtain ⟨V,hV,hBV,q6,kV⟩:=Z3 (B:=gv) fn fA fk fc fm fB fj fd (Below.refl gv wx) (Nat.le_refl _) qv
    have hBV':Below w.heap.size w V:=by
     rw [<- hV];have hgv:w.heap.size <= gv:=Nat.le_trans hBp.size kv;exact ((((hBp.trans (hbx.mono hBp.size)).setCell (p:=⟨gv,0,none⟩) hgv _).setCell (p:=⟨gv,1,none⟩) hgv _).setCell (p:=⟨gv,2,none⟩) hgv _).setCell (p:=⟨gv,3,none⟩) hgv _
    have hbX:Hid (Below wr.heap.size wr V):=Za (by rw [<- hV];exact (((hbx.setCell (p:=⟨gv,0,none⟩) kv _).setCell (p:=⟨gv,1,none⟩) kv _).setCell (p:=⟨gv,2,none⟩) kv _).setCell (p:=⟨gv,3,none⟩) kv _);have hf7:=Za (Fr.keep hff kV.1);have qr7:=kV.2.1 gr _ _ hgrv qr6;obtain ⟨y0,y1,y2,y3,y4,y5,y6,y7⟩:=qv.four;replace q6:=Za q6;replace qr7:=Za qr7;replace hBV':=Za hBV';clear hff kV qr6 hBV qv;refine Ze (i:=7) rfl (by kernel_rfl) (fun K hK=>?_);go_simp;(try rw [hV]);refine hK.out _ _ (fun _=>hSv2.out _ (hbX.out)) ?_;clear hK K
    try simp only [Act.put,Zgj,Zfx,Zge]
    refine Zfy 1 [8] rfl (by kernel_rfl) (hSv2.out _ hbX.out) ?_
    (refine tk1 (v:=?_) rfl (Or.inl ⟨by kernel_rfl,?_⟩) ?_;rotate_left;(· intro W2 _;go_simp;try with_reducible rfl);try simp only [Act.put,Zgj,Zfx,Zge,putG_a,putG_s,putG_z])
    refine tk0 ?_;refine Zk (by kernel_rfl) ?_ _;refine OnlyNormal.normal ?_;clear hV y0 y1 y2 y3 y4 y5 y6 y7 hbx hb hr2 hSv2 hxs2 s0 s1 hbX;obtain ⟨z0,z1,z2,z3,-⟩:=q6.out.four;obtain ⟨r0,r1,r2,r3,r4,r5,r6,r7⟩:=qr7.out.four;go_wp2_with fail;obtain ⟨X,hX,hBX,q8,st⟩:=Z3 fn fA fk fc fm fB fj fd hBV'.out hgr qr7.out;(try rw [hX]);obtain ⟨x0,x1,x2,x3,-⟩:=q8.four;refine bodyPost_ret (v:=.agg #[.bool fn,.slice fA fk fc,.bool fm,.slice fB fj fd]) (by simp [results,Tryz.results115,go_sem,x0,x1,x2,x3]) rfl ?_;exact ⟨hBX,_,_,_,_,_,_,_,_,rfl,Fr.keep hf7.out st.1⟩
  have htk:decide ((i:Int) < (n:Int))=true:=decide_eq_true (by omega);obtain ⟨g,o,rfl,hcc⟩:=hg.out (by omega);have ci:=(hBp.cell (Zp (hcc i hin))).trans (hcc i hin);clear hcc;have hx:=Zco hws.out i;have ha:=haa.out i hin;have hb0:=hbb.out i hin;have hsum:(Za4 ws a b i+(ws[i]?.getD 0) * (a i * b i)).natAbs < pw 4096:=Zsx (i:=i+1) hws.out (by omega) (fun j hj=>⟨haa.out j (by omega),hbb.out j (by omega)⟩);have hnext:Za4 ws a b (i+1)=Za4 ws a b i+(ws[i]?.getD 0) * (a i * b i):=rfl;rw [<- hnext] at hsum;replace hnext:=Za hnext;obtain ⟨x,hxe⟩:∃ x,ws[i]?.getD 0=x:=⟨_,rfl⟩;obtain ⟨a0,hae⟩:∃ x,a i=x:=⟨_,rfl⟩;obtain ⟨b0,hbe⟩:∃ x,b i=x:=⟨_,rfl⟩;obtain ⟨s,hse⟩:∃ x,Za4 ws a b i=x:=⟨_,rfl⟩;replace hnext:=hnext.out;rw [hxe,hae,hbe,hse] at hnext;rw [hnext] at hsum;rw [hxe] at hx ci;rw [hae] at ha;rw [hbe] at hb0;rw [hse] at hs;replace hsum:=Za hsum;replace hnext:=Za hnext;replace hae:=Za hae;replace hbe:=Za hbe;clear hxe hse;go_wp2_with fail;have hSv1:Hid (∀ wx,Below wr.heap.size wr wx->wx.cell? ⟨g,o+i,none⟩=some (.int .i64 x)/\wx.cell? ⟨gs,0,none⟩=some (.bool sn)/\wx.cell? ⟨gs,1,none⟩=some (.slice sA sk sc)):=Za (fun wx hbx=>⟨Zb hbx ci,Zb hbx s0,Zb hbx s1⟩);have hr1:Below wr.heap.size wr wr.drew:=Zf (Below.refl _ _) 1;refine wp_heldS [17] hmx hSv1 hr1 (fun hxs1=>?_);refine Zi4 1 [0] rfl (by kernel_rfl) (hSv1.out _ hr1) ?_
  (refine tk1 (v:=?_) rfl (Or.inl ⟨by kernel_rfl,?_⟩) ?_;rotate_left;(· intro W2 hSw;(try dsimp only at hSw);go_simp;try with_reducible rfl);try simp only [Act.put,Zgj,Zfx,Zge,putG_a,putG_s,putG_z])
  refine tk0 ?_;refine Zfy 5 [1,3,4,7,8] rfl (by kernel_rfl) (hSv1.out _ hr1) ?_
  iterate 5 (refine tk1 (v:=?_) rfl (Or.inl ⟨by kernel_rfl,?_⟩) ?_;rotate_left;(· intro W2 _;go_simp;try with_reducible rfl);try simp only [Act.put,Zgj,Zfx,Zge,putG_a,putG_s,putG_z])
  refine tk0 ?_;refine Zbm [(2,22),(5,25),(6,26),(9,29),(10,30),(11,31),(12,32),(13,33),(14,19)] (fun i=>match i with | 14=>[15,16] | _=>[]) [(2,22),(5,25),(6,26),(9,29),(10,30),(11,31),(12,32),(13,33),(14,19),(15,34),(16,35)] (Zc1 x a0 b0 s) 1 (by kernel_rfl) (fun _ _ _ _ _ hb h=>Zkz hb h) (fun wx h=>hSv1.out _ (hr1.trans (h.mono hr1.size))) ?hop1 ?hfin1
  case hop1 =>
   intro p hp;simp only [List.mem_cons,List.not_mem_nil,or_false] at hp;simp only [List.map_cons,List.map_nil,Zaw,Act.put,Zgj,Zfx,Zge]
   rcases hp with rfl | rfl | rfl | rfl | rfl | rfl | rfl | rfl | rfl
   ·intro ν wx hb hP
    have hbx:=hr1.trans (hb.mono hr1.size);refine Zl (i:=2) rfl (fun K hK=>?_);go_simp;refine (Za5 x wx hx.1 hx.2).mono ?_;rintro e w5 ⟨hb5,na5,A5,k5,c5,rfl,hf5⟩;exact hK.out _ _ ⟨_,rfl,(by simp only [Zc1];exact ⟨_,_,_,_,rfl,hf5⟩),hb5,trivial⟩
   ·intro ν wx hb hP
    have hbx:=hr1.trans (hb.mono hr1.size);refine Zl (i:=5) rfl (fun K hK=>?_);go_simp;refine (hA.out wx i (hBp.trans (hbx.mono hBp.size)) hin).mono ?_;rintro e w5 ⟨rfl,hb5⟩;exact hK.out _ _ ⟨_,rfl,(show Value.int .i64 _=Value.int .i64 _ from by rw [hae.out]),hb5,trivial⟩
   ·intro ν wx hb hP
    have hbx:=hr1.trans (hb.mono hr1.size);have h3:=hP (5,25) (by simp) (by kernel_rfl);replace h3:=dot5 h3;rw [h3];refine Zl (i:=6) rfl (fun K hK=>?_);go_simp;refine (Za5 a0 wx ha.1 ha.2).mono ?_;rintro e w5 ⟨hb5,na5,A5,k5,c5,rfl,hf5⟩;exact hK.out _ _ ⟨_,rfl,(by simp only [Zc1];exact ⟨_,_,_,_,rfl,hf5⟩),hb5,trivial⟩
   ·intro ν wx hb hP
    have hbx:=hr1.trans (hb.mono hr1.size);refine Zl (i:=9) rfl (fun K hK=>?_);go_simp;refine (hB.out wx i (hBp.trans (hbx.mono hBp.size)) hin).mono ?_;rintro e w5 ⟨rfl,hb5⟩;exact hK.out _ _ ⟨_,rfl,(show Value.int .i64 _=Value.int .i64 _ from by rw [hbe.out]),hb5,trivial⟩
   ·intro ν wx hb hP
    have hbx:=hr1.trans (hb.mono hr1.size);have h3:=hP (9,29) (by simp) (by kernel_rfl);replace h3:=dot9 h3;rw [h3];refine Zl (i:=10) rfl (fun K hK=>?_);go_simp;refine (Za5 b0 wx hb0.1 hb0.2).mono ?_;rintro e w5 ⟨hb5,na5,A5,k5,c5,rfl,hf5⟩;exact hK.out _ _ ⟨_,rfl,(by simp only [Zc1];exact ⟨_,_,_,_,rfl,hf5⟩),hb5,trivial⟩
   ·intro ν wx hb hP
    have hbx:=hr1.trans (hb.mono hr1.size);have h3:=hP (6,26) (by simp) (by kernel_rfl);replace h3:=dot6 h3;obtain ⟨na3,A3,k3,c3,hν3,hf3⟩:=h3;rw [hν3];have h4:=hP (10,30) (by simp) (by kernel_rfl);replace h4:=Zte h4;obtain ⟨na4,A4,k4,c4,hν4,hf4⟩:=h4;rw [hν4];refine Zl (i:=11) rfl (fun K hK=>?_);go_simp;refine (Zc5 na3 na4 A3 A4 k3 c3 k4 c4 _ _ wx hf3 hf4 (Zwk ha hb0)).mono ?_;rintro e w5 ⟨hb5,na5,A5,k5,c5,rfl,hf5⟩;exact hK.out _ _ ⟨_,rfl,(by simp only [Zc1];exact ⟨_,_,_,_,rfl,hf5⟩),hb5,trivial⟩
   ·intro ν wx hb hP
    have hbx:=hr1.trans (hb.mono hr1.size);have h3:=hP (2,22) (by simp) (by kernel_rfl);replace h3:=dot2 h3;obtain ⟨na3,A3,k3,c3,hν3,hf3⟩:=h3;rw [hν3];have h4:=hP (11,31) (by simp) (by kernel_rfl);replace h4:=Zs2 h4;obtain ⟨na4,A4,k4,c4,hν4,hf4⟩:=h4;rw [hν4];refine Zl (i:=12) rfl (fun K hK=>?_);go_simp;refine (Zc5 na3 na4 A3 A4 k3 c3 k4 c4 _ _ wx hf3 hf4 (Zq1 hx ha hb0)).mono ?_;rintro e w5 ⟨hb5,na5,A5,k5,c5,rfl,hf5⟩;exact hK.out _ _ ⟨_,rfl,(by simp only [Zc1];exact ⟨_,_,_,_,rfl,hf5⟩),hb5,trivial⟩
   ·intro ν wx hb hP
    have hbx:=hr1.trans (hb.mono hr1.size);have h4:=hP (12,32) (by simp) (by kernel_rfl);replace h4:=Zsz h4;obtain ⟨na4,A4,k4,c4,hν4,hf4⟩:=h4;rw [hν4];refine Zl (i:=13) rfl (fun K hK=>?_);go_simp;refine (Zsd sn na4 sA A4 sk sc k4 c4 _ _ wx (hs.out.below hbx) hf4).mono ?_;rintro e w5 ⟨hb5,na5,A5,k5,c5,code,rfl,hR⟩
    rcases hR with ⟨_,rfl,hf5⟩ | ⟨hlt,_⟩
    ·exact hK.out _ _ ⟨_,rfl,(by simp only [Zc1];exact ⟨_,_,_,_,rfl,hf5⟩),hb5,trivial⟩
    ·exact absurd hlt (Nat.not_le.2 hsum.out)
   ·intro ν wx hb hP
    have hbx:=hr1.trans (hb.mono hr1.size);have h3:=hP (13,33) (by simp) (by kernel_rfl);replace h3:=Zs3 h3;obtain ⟨na3,A3,k3,c3,hν3,hf3⟩:=h3;rw [hν3];refine Zl (i:=14) rfl (fun K hK=>?_);go_simp;refine hK.out _ _ ⟨_,rfl,(by simp only [Zc1];exact ⟨_,_,_,_,rfl,hf3⟩),Below.refl _ _,?_⟩;refine ⟨_,.agg #[.bool na3,.slice A3 k3 c3],rfl,Or.inl ⟨by kernel_rfl,fun W2 _=>by go_simp⟩,(by simp only [Zc1];exact ⟨_,_,_,_,rfl,hf3⟩),?_⟩;exact ⟨_,.int .i64 0,rfl,Or.inl ⟨by kernel_rfl,fun W2 _=>by go_simp⟩,rfl,trivial⟩
  case hfin1 =>
   intro ν wx hb hP;have h2:=dot2 (hP (2,22) (by simp));have h5:=dot5 (hP (5,25) (by simp));have h6:=dot6 (hP (6,26) (by simp));have h9:=dot9 (hP (9,29) (by simp));have h10:=Zte (hP (10,30) (by simp));have h11:=Zs2 (hP (11,31) (by simp));have h12:=Zsz (hP (12,32) (by simp));have h13:=Zs3 (hP (13,33) (by simp));have h14:=dot14 (hP (14,19) (by simp));have h15:=dot15 (hP (15,34) (by simp));have h16:=dot16 (hP (16,35) (by simp));obtain ⟨_,_,_,_,h2,-⟩:=h2;obtain ⟨_,_,_,_,h6,-⟩:=h6;obtain ⟨_,_,_,_,h10,-⟩:=h10;obtain ⟨_,_,_,_,h11,-⟩:=h11;obtain ⟨_,_,_,_,h12,-⟩:=h12;obtain ⟨_,_,_,_,h13,-⟩:=h13;obtain ⟨_,_,_,_,h14,-⟩:=h14;obtain ⟨n5,A5,k5,c5,h15,hf5⟩:=h15;simp only [List.map_cons,List.map_nil,Zaw,Act.put,Zgj,Zfx,Zge];rw [h2,h5,h6,h9,h10,h11,h12,h13,h14,h15,h16];clear h2 h5 h6 h9 h10 h11 h12 h13 h14 h15 h16 hP ν;have hbx:=hr1.trans (hb.mono hr1.size);have qs6:=Zc hbx qs.out;have qr6:=Zc hbx qr.out;obtain ⟨W6,hW6,hB6,q6,kW6⟩:=Zav (B:=gs) n5 A5 k5 c5 (Below.refl gs wx) (Nat.le_refl _) qs6
   have hB7:Below w.heap.size w W6:=by
    rw [<- hW6];exact ((hBp.trans (hbx.mono hBp.size)).setCell (p:=⟨gs,0,none⟩) hgs _).setCell (p:=⟨gs,1,none⟩) hgs _
   have hf7:=Za (kW6.1 _ _ _ _ _ hf5);have qr7:=kW6.2.1 gr _ _ hgrs qr6;obtain ⟨y0,y1,y2,y3⟩:=qs6.two;replace q6:=Za q6;replace qr7:=Za qr7;replace hB7:=Za hB7;clear hf5 kW6 qs6 qr6 hB6;refine Zu (i:=17) rfl (by kernel_rfl) (by kernel_rfl) (fun K hK=>?_);go_simp;(try rw [hW6]);refine hK.out _ _ ?_;clear hK K
   try simp only [Act.put,Zgj,Zfx,Zge]
   refine Zk (by kernel_rfl) ?_ _;refine OnlyNormal.normal ?_;clear hW6 y0 y1 y2 y3 hbx hb hr1 hSv1 hxs1 ci s0 s1;go_wp2_with fail
   go_roundw
   case rel=>exact ⟨i+1,n5,A5,k5,c5,by omega,by go_num,hf7.out.same hnext.out.symm,q6.out,qr7.out,hB7.out⟩
   case measure=>simp [intOf];omega
theorem Zwd (Fa Fb:FuncId) (v0 v1 u0:Value) (A:Option Addr) (n c:Nat) (ws:List Int) (a b:Nat->Int) (w:World) (h:LimI w A n c ws) (hn:n <= 900)
    (ha:∀ i,i < n->I64 (a i)) (hb:∀ i,i < n->I64 (b i))
    (hca:∀ (x:Value) (W:World),(callFunc Fa #[x,v0,v1]).run Tryz.prog W=.ok (.enter Fa #[x,v0,v1]) W)
    (hcb:∀ (x:Value) (W:World),(callFunc Fb #[x,u0]).run Tryz.prog W=.ok (.enter Fb #[x,u0]) W)
    (hA:∀ (W:World) (i:Nat),Below w.heap.size w W->i < n->Calls Tryz.prog Fa #[.int .i64 i,v0,v1] W fun e W'=>e=.returned (.int .i64 (a i))/\Below W.heap.size W W')
    (hB:∀ (W:World) (i:Nat),Below w.heap.size w W->i < n->Calls Tryz.prog Fb #[.int .i64 i,u0] W fun e W'=>e=.returned (.int .i64 (b i))/\Below W.heap.size W W') :
    Calls Tryz.prog 115 #[.slice A n c,.func (.func Fa) #[] #[v0,v1],.func (.func Fb) #[] #[u0]] w (Zff w ((Za4 ws a b n:Int):Rat)):=by
 have hmx:Tryz.prog.follows .mixedOrders=true:=by kernel_rfl
 have hwsl:=h.1;have hnc:=h.2.1;have hcm:=h.2.2.1;unfold maxLen at hcm;have hws:=Za h.2.2.2.1;have hg:=Za h.2.2.2.2;replace hA:=Za hA;replace hB:=Za hB;have haa:=Za ha;have hbb:=Za hb;clear h ha hb;obtain ⟨W0,hW0,hB0,⟨q0,q1⟩,s0⟩:=Zf5 w 45 #[.bool false,.slice none 0 0,.bool false,.slice none 0 0] 43 #[.bool false,.slice none 0 0];obtain ⟨gr,hgr'⟩:∃ g,w.heap.size=g:=⟨_,rfl⟩;rw [hgr'] at q0 q1;obtain ⟨gs,hgs'⟩:∃ g,gr+1=g:=⟨_,rfl⟩;rw [hgs'] at q1
 have hgr:w.heap.size <= gr:=by omega
 have hgs:w.heap.size <= gs:=by omega
 have hgrs:gr ≠ gs:=by omega
 have hz0:Wd W0 false none 0 0 0:=Wd.zero _;go_enter Tryz.func115,Tryz.ntmps115;go_wp2_with fail;(try rw [hW0]);(try rw [hgr']);(try rw [hgs']);replace hgr':=Za hgr';replace hgs':=Za hgs';clear hW0 s0
 go_loopw [14] (fun iv wr=>∃ (i:Nat) (sn:Bool) (sA:Option Addr) (sk sc:Nat),i <= n/\iv=.int .i64 i/\Wd wr sn sA sk sc (Za4 ws a b i)/\Blk wr gs 43 #[.bool sn,.slice sA sk sc]/\Blk wr gr 45 #[.bool false,.slice none 0 0,.bool false,.slice none 0 0]/\Below w.heap.size w wr) (fun iv _=>n - (intOf iv).toNat)
 case atStart=>exact ⟨0,false,none,0,0,Nat.zero_le _,rfl,hz0,q1,q0,hB0⟩
 case round =>
  clear q0 q1 hB0 hz0;obtain ⟨i,sn,sA,sk,sc,hik,rfl,hs,qs,qr,hBp⟩:=hrel;obtain ⟨s0,s1,s2,s3⟩:=qs.two;replace hs:=Za hs;replace qs:=Za qs;replace qr:=Za qr
  by_cases hin:i < n
  case neg =>
   obtain rfl:n=i:=by omega
   have htk:decide ((n:Int) < (n:Int))=false:=by simp
   generalize Za4 ws a b n=D at *
   go_wp2_with fail;have hSv2:Hid (∀ wx,Below wr.heap.size wr wx->wx.cell? ⟨gs,0,none⟩=some (.bool sn)/\wx.cell? ⟨gs,1,none⟩=some (.slice sA sk sc)):=Za (fun wx hbx=>⟨Zb hbx s0,Zb hbx s1⟩);have hr2:Below wr.heap.size wr wr.drew:=Zf (Below.refl _ _) 1;refine wp_heldS [] hmx hSv2 hr2 (fun hxs2=>?_);refine Zi4 1 [0] rfl (by kernel_rfl) (hSv2.out _ hr2) ?_
   (refine tk1 (v:=?_) rfl (Or.inl ⟨by kernel_rfl,?_⟩) ?_;rotate_left;(· intro W2 hSw;(try dsimp only at hSw);go_simp;try with_reducible rfl);try simp only [Act.put,Zgj,Zfx,Zge,putG_a,putG_s,putG_z])
   refine tk0 ?_;refine Zbm [(1,39),(2,40),(3,37),(4,41),(6,10)] (fun i=>match i with | 3=>[5] | _=>[]) [(1,39),(2,40),(3,37),(5,42),(4,41),(6,10)] (Zd8 wr.heap.size (D:Rat)) 2 (by kernel_rfl) (fun _ _ _ _ _ hb h=>Zl2 hb h) (fun wx h=>hSv2.out _ (hr2.trans (h.mono hr2.size))) ?hop2 ?hfin2
   case hop2 =>
    intro p hp;simp only [List.mem_cons,List.not_mem_nil,or_false] at hp;simp only [List.map_cons,List.map_nil,Zaw,Act.put,Zgj,Zfx,Zge]
    rcases hp with rfl | rfl | rfl | rfl | rfl
    ·intro ν wx hb hP
     refine Zl (i:=1) rfl (fun K hK=>?_);go_simp;refine (Za5 1 wx (by decide) (by decide)).mono ?_;rintro e w5 ⟨hb5,na5,A5,k5,c5,rfl,hf5⟩;exact hK.out _ _ ⟨_,rfl,(by simp only [Zd8,Zaa];exact ⟨_,_,_,_,rfl,hf5⟩),hb5,trivial⟩
    ·intro ν wx hb hP
     have hbx:=hr2.trans (hb.mono hr2.size);have h3:=end1 (hP (1,39) (by simp) (by kernel_rfl));obtain ⟨na3,A3,k3,c3,hν3,hf3⟩:=h3;rw [hν3];obtain rfl:na3=false:=hf3.1;refine Zl (i:=2) rfl (fun K hK=>?_);go_simp;refine (Zc4 sn sA A3 sk sc k3 c3 D 1 wx (hs.out.below hbx) hf3 (by decide)).mono ?_;rintro e w5 ⟨hb5,na5,A5,k5,c5,nb5,B5,m5,d5,rfl,hf5⟩;rw [Zgk] at hf5;exact hK.out _ _ ⟨_,rfl,(by simp only [Zd8,Zaa];exact ⟨_,_,_,_,_,_,_,_,rfl,hf5⟩),hb5,trivial⟩
    ·intro ν wx hb hP
     have h0:=hP (2,40) (by simp) (by kernel_rfl);simp only [Zd8,Zaa] at h0;obtain ⟨na5,A5,k5,c5,nb5,B5,m5,d5,hν,hf5⟩:=h0;rw [hν];refine Zl (i:=3) rfl (fun K hK=>?_);go_simp;refine hK.out _ _ ⟨_,rfl,(by simp only [Zd8,Zaa];exact ⟨_,_,_,_,_,_,_,_,rfl,hf5⟩),Below.refl _ _,?_⟩;exact ⟨_,.int .i64 0,rfl,Or.inl ⟨by kernel_rfl,fun W2 _=>by go_simp⟩,by simp [Zd8,Zaa],trivial⟩
    ·intro ν wx hb hP
     have h0:=hP (3,37) (by simp) (by kernel_rfl);simp only [Zd8,Zaa] at h0;obtain ⟨na5,A5,k5,c5,nb5,B5,m5,d5,hν,hf5⟩:=h0;rw [hν];refine Zl (i:=4) rfl (fun K hK=>?_);go_simp;exact hK.out _ _ ⟨_,rfl,(by simp only [Zd8,Zaa];exact ⟨_,_,_,_,_,_,_,_,rfl,hf5⟩),Below.refl _ _,trivial⟩
    ·intro ν wx hb hP
     refine Zl (i:=6) rfl (fun K hK=>?_);go_simp;exact hK.out _ _ ⟨_,rfl,(by simp only [Zd8,Zaa];exact ⟨_,rfl,(hr2.trans (hb.mono hr2.size)).size,Blk.new _ _ _⟩),(Below.refl _ _).alloc (Nat.le_refl _) _,trivial⟩
   case hfin2 =>
    intro ν wx hb hP;have h0:=end1 (hP (1,39) (by simp));have h1:=hP (2,40) (by simp);have h2:=hP (3,37) (by simp);have h3:=hP (5,42) (by simp);have h4:=hP (4,41) (by simp);have h5:=hP (6,10) (by simp);simp only [Zd8,Zaa] at h1 h2 h4 h5;obtain ⟨_,_,_,_,h0,-⟩:=h0;obtain ⟨_,_,_,_,_,_,_,_,h1,-⟩:=h1;obtain ⟨_,_,_,_,_,_,_,_,h2,-⟩:=h2;obtain ⟨fn,fA,fk,fc,fm,fB,fj,fd,h4,hff⟩:=h4;obtain ⟨gv,h5,kv,qv⟩:=h5;simp only [List.map_cons,List.map_nil,Zaw,Act.put,Zgj,Zfx,Zge];rw [h0,h1,h2,(show ν 42=Value.int .i64 0 by simpa [Zd8,Zaa] using h3),h4,h5];clear h0 h1 h2 h3 h4 h5 hP ν;have hbx:=hr2.trans (hb.mono hr2.size);have qr6:=Zc hbx qr.out
    have hgrv:gr ≠ gv:=by have:=qr.out.lt;omega
    obtain ⟨V,hV,hBV,q6,kV⟩:=Z3 (B:=gv) fn fA fk fc fm fB fj fd (Below.refl gv wx) (Nat.le_refl _) qv
    have hBV':Below w.heap.size w V:=by
     rw [<- hV];have hgv:w.heap.size <= gv:=Nat.le_trans hBp.size kv;exact ((((hBp.trans (hbx.mono hBp.size)).setCell (p:=⟨gv,0,none⟩) hgv _).setCell (p:=⟨gv,1,none⟩) hgv _).setCell (p:=⟨gv,2,none⟩) hgv _).setCell (p:=⟨gv,3,none⟩) hgv _
    have hbX:Hid (Below wr.heap.size wr V):=Za (by rw [<- hV];exact (((hbx.setCell (p:=⟨gv,0,none⟩) kv _).setCell (p:=⟨gv,1,none⟩) kv _).setCell (p:=⟨gv,2,none⟩) kv _).setCell (p:=⟨gv,3,none⟩) kv _);have hf7:=Za (Fr.keep hff kV.1);have qr7:=kV.2.1 gr _ _ hgrv qr6;obtain ⟨y0,y1,y2,y3,y4,y5,y6,y7⟩:=qv.four;replace q6:=Za q6;replace qr7:=Za qr7;replace hBV':=Za hBV';clear hff kV qr6 hBV qv;refine Ze (i:=7) rfl (by kernel_rfl) (fun K hK=>?_);go_simp;(try rw [hV]);refine hK.out _ _ (fun _=>hSv2.out _ (hbX.out)) ?_;clear hK K
    try simp only [Act.put,Zgj,Zfx,Zge]
    refine Zfy 1 [8] rfl (by kernel_rfl) (hSv2.out _ hbX.out) ?_
    (refine tk1 (v:=?_) rfl (Or.inl ⟨by kernel_rfl,?_⟩) ?_;rotate_left;(· intro W2 _;go_simp;try with_reducible rfl);try simp only [Act.put,Zgj,Zfx,Zge,putG_a,putG_s,putG_z])
    refine tk0 ?_;refine Zk (by kernel_rfl) ?_ _;refine OnlyNormal.normal ?_;clear hV y0 y1 y2 y3 y4 y5 y6 y7 hbx hb hr2 hSv2 hxs2 s0 s1 hbX;obtain ⟨z0,z1,z2,z3,-⟩:=q6.out.four;obtain ⟨r0,r1,r2,r3,r4,r5,r6,r7⟩:=qr7.out.four;go_wp2_with fail;obtain ⟨X,hX,hBX,q8,st⟩:=Z3 fn fA fk fc fm fB fj fd hBV'.out hgr qr7.out;(try rw [hX]);obtain ⟨x0,x1,x2,x3,-⟩:=q8.four;refine bodyPost_ret (v:=.agg #[.bool fn,.slice fA fk fc,.bool fm,.slice fB fj fd]) (by simp [results,Tryz.results115,go_sem,x0,x1,x2,x3]) rfl ?_;exact ⟨hBX,_,_,_,_,_,_,_,_,rfl,Fr.keep hf7.out st.1⟩
  have htk:decide ((i:Int) < (n:Int))=true:=decide_eq_true (by omega);obtain ⟨g,o,rfl,hcc⟩:=hg.out (by omega);have ci:=(hBp.cell (Zp (hcc i hin))).trans (hcc i hin);clear hcc;have hx:=Zco hws.out i;have ha:=haa.out i hin;have hb0:=hbb.out i hin;have hsum:(Za4 ws a b i+(ws[i]?.getD 0) * (a i * b i)).natAbs < pw 4096:=Zsx (i:=i+1) hws.out (by omega) (fun j hj=>⟨haa.out j (by omega),hbb.out j (by omega)⟩);have hnext:Za4 ws a b (i+1)=Za4 ws a b i+(ws[i]?.getD 0) * (a i * b i):=rfl;rw [<- hnext] at hsum;replace hnext:=Za hnext;obtain ⟨x,hxe⟩:∃ x,ws[i]?.getD 0=x:=⟨_,rfl⟩;obtain ⟨a0,hae⟩:∃ x,a i=x:=⟨_,rfl⟩;obtain ⟨b0,hbe⟩:∃ x,b i=x:=⟨_,rfl⟩;obtain ⟨s,hse⟩:∃ x,Za4 ws a b i=x:=⟨_,rfl⟩;replace hnext:=hnext.out;rw [hxe,hae,hbe,hse] at hnext;rw [hnext] at hsum;rw [hxe] at hx ci;rw [hae] at ha;rw [hbe] at hb0;rw [hse] at hs;replace hsum:=Za hsum;replace hnext:=Za hnext;replace hae:=Za hae;replace hbe:=Za hbe;clear hxe hse;go_wp2_with fail;have hSv1:Hid (∀ wx,Below wr.heap.size wr wx->wx.cell? ⟨g,o+i,none⟩=some (.int .i64 x)/\wx.cell? ⟨gs,0,none⟩=some (.bool sn)/\wx.cell? ⟨gs,1,none⟩=some (.slice sA sk sc)):=Za (fun wx hbx=>⟨Zb hbx ci,Zb hbx s0,Zb hbx s1⟩);have hr1:Below wr.heap.size wr wr.drew:=Zf (Below.refl _ _) 1;refine wp_heldS [17] hmx hSv1 hr1 (fun hxs1=>?_);refine Zi4 1 [0] rfl (by kernel_rfl) (hSv1.out _ hr1) ?_
  (refine tk1 (v:=?_) rfl (Or.inl ⟨by kernel_rfl,?_⟩) ?_;rotate_left;(· intro W2 hSw;(try dsimp only at hSw);go_simp;try with_reducible rfl);try simp only [Act.put,Zgj,Zfx,Zge,putG_a,putG_s,putG_z])
  refine tk0 ?_;refine Zfy 5 [1,3,4,7,8] rfl (by kernel_rfl) (hSv1.out _ hr1) ?_
  iterate 5 (refine tk1 (v:=?_) rfl (Or.inl ⟨by kernel_rfl,?_⟩) ?_;rotate_left;(· intro W2 _;go_simp;try with_reducible rfl);try simp only [Act.put,Zgj,Zfx,Zge,putG_a,putG_s,putG_z])
  refine tk0 ?_;refine Zbm [(2,22),(5,25),(6,26),(9,29),(10,30),(11,31),(12,32),(13,33),(14,19)] (fun i=>match i with | 14=>[15,16] | _=>[]) [(2,22),(5,25),(6,26),(9,29),(10,30),(11,31),(12,32),(13,33),(14,19),(15,34),(16,35)] (Zc1 x a0 b0 s) 1 (by kernel_rfl) (fun _ _ _ _ _ hb h=>Zkz hb h) (fun wx h=>hSv1.out _ (hr1.trans (h.mono hr1.size))) ?hop1 ?hfin1
  case hop1 =>
   intro p hp;simp only [List.mem_cons,List.not_mem_nil,or_false] at hp;simp only [List.map_cons,List.map_nil,Zaw,Act.put,Zgj,Zfx,Zge]
   rcases hp with rfl | rfl | rfl | rfl | rfl | rfl | rfl | rfl | rfl
   ·intro ν wx hb hP
    have hbx:=hr1.trans (hb.mono hr1.size);refine Zl (i:=2) rfl (fun K hK=>?_);go_simp;refine (Za5 x wx hx.1 hx.2).mono ?_;rintro e w5 ⟨hb5,na5,A5,k5,c5,rfl,hf5⟩;exact hK.out _ _ ⟨_,rfl,(by simp only [Zc1];exact ⟨_,_,_,_,rfl,hf5⟩),hb5,trivial⟩
   ·intro ν wx hb hP
    have hbx:=hr1.trans (hb.mono hr1.size);refine Zl (i:=5) rfl (fun K hK=>?_);go_simp;refine (hA.out wx i (hBp.trans (hbx.mono hBp.size)) hin).mono ?_;rintro e w5 ⟨rfl,hb5⟩;exact hK.out _ _ ⟨_,rfl,(show Value.int .i64 _=Value.int .i64 _ from by rw [hae.out]),hb5,trivial⟩
   ·intro ν wx hb hP
    have hbx:=hr1.trans (hb.mono hr1.size);have h3:=hP (5,25) (by simp) (by kernel_rfl);replace h3:=dot5 h3;rw [h3];refine Zl (i:=6) rfl (fun K hK=>?_);go_simp;refine (Za5 a0 wx ha.1 ha.2).mono ?_;rintro e w5 ⟨hb5,na5,A5,k5,c5,rfl,hf5⟩;exact hK.out _ _ ⟨_,rfl,(by simp only [Zc1];exact ⟨_,_,_,_,rfl,hf5⟩),hb5,trivial⟩
   ·intro ν wx hb hP
    have hbx:=hr1.trans (hb.mono hr1.size);refine Zl (i:=9) rfl (fun K hK=>?_);go_simp;refine (hB.out wx i (hBp.trans (hbx.mono hBp.size)) hin).mono ?_;rintro e w5 ⟨rfl,hb5⟩;exact hK.out _ _ ⟨_,rfl,(show Value.int .i64 _=Value.int .i64 _ from by rw [hbe.out]),hb5,trivial⟩
   ·intro ν wx hb hP
    have hbx:=hr1.trans (hb.mono hr1.size);have h3:=hP (9,29) (by simp) (by kernel_rfl);replace h3:=dot9 h3;rw [h3];refine Zl (i:=10) rfl (fun K hK=>?_);go_simp;refine (Za5 b0 wx hb0.1 hb0.2).mono ?_;rintro e w5 ⟨hb5,na5,A5,k5,c5,rfl,hf5⟩;exact hK.out _ _ ⟨_,rfl,(by simp only [Zc1];exact ⟨_,_,_,_,rfl,hf5⟩),hb5,trivial⟩
   ·intro ν wx hb hP
    have hbx:=hr1.trans (hb.mono hr1.size);have h3:=hP (6,26) (by simp) (by kernel_rfl);replace h3:=dot6 h3;obtain ⟨na3,A3,k3,c3,hν3,hf3⟩:=h3;rw [hν3];have h4:=hP (10,30) (by simp) (by kernel_rfl);replace h4:=Zte h4;obtain ⟨na4,A4,k4,c4,hν4,hf4⟩:=h4;rw [hν4];refine Zl (i:=11) rfl (fun K hK=>?_);go_simp;refine (Zc5 na3 na4 A3 A4 k3 c3 k4 c4 _ _ wx hf3 hf4 (Zwk ha hb0)).mono ?_;rintro e w5 ⟨hb5,na5,A5,k5,c5,rfl,hf5⟩;exact hK.out _ _ ⟨_,rfl,(by simp only [Zc1];exact ⟨_,_,_,_,rfl,hf5⟩),hb5,trivial⟩
   ·intro ν wx hb hP
    have hbx:=hr1.trans (hb.mono hr1.size);have h3:=hP (2,22) (by simp) (by kernel_rfl);replace h3:=dot2 h3;obtain ⟨na3,A3,k3,c3,hν3,hf3⟩:=h3;rw [hν3];have h4:=hP (11,31) (by simp) (by kernel_rfl);replace h4:=Zs2 h4;obtain ⟨na4,A4,k4,c4,hν4,hf4⟩:=h4;rw [hν4];refine Zl (i:=12) rfl (fun K hK=>?_);go_simp;refine (Zc5 na3 na4 A3 A4 k3 c3 k4 c4 _ _ wx hf3 hf4 (Zq1 hx ha hb0)).mono ?_;rintro e w5 ⟨hb5,na5,A5,k5,c5,rfl,hf5⟩;exact hK.out _ _ ⟨_,rfl,(by simp only [Zc1];exact ⟨_,_,_,_,rfl,hf5⟩),hb5,trivial⟩
   ·intro ν wx hb hP
    have hbx:=hr1.trans (hb.mono hr1.size);have h4:=hP (12,32) (by simp) (by kernel_rfl);replace h4:=Zsz h4;obtain ⟨na4,A4,k4,c4,hν4,hf4⟩:=h4;rw [hν4];refine Zl (i:=13) rfl (fun K hK=>?_);go_simp;refine (Zsd sn na4 sA A4 sk sc k4 c4 _ _ wx (hs.out.below hbx) hf4).mono ?_;rintro e w5 ⟨hb5,na5,A5,k5,c5,code,rfl,hR⟩
    rcases hR with ⟨_,rfl,hf5⟩ | ⟨hlt,_⟩
    ·exact hK.out _ _ ⟨_,rfl,(by simp only [Zc1];exact ⟨_,_,_,_,rfl,hf5⟩),hb5,trivial⟩
    ·exact absurd hlt (Nat.not_le.2 hsum.out)
   ·intro ν wx hb hP
    have hbx:=hr1.trans (hb.mono hr1.size);have h3:=hP (13,33) (by simp) (by kernel_rfl);replace h3:=Zs3 h3;obtain ⟨na3,A3,k3,c3,hν3,hf3⟩:=h3;rw [hν3];refine Zl (i:=14) rfl (fun K hK=>?_);go_simp;refine hK.out _ _ ⟨_,rfl,(by simp only [Zc1];exact ⟨_,_,_,_,rfl,hf3⟩),Below.refl _ _,?_⟩;refine ⟨_,.agg #[.bool na3,.slice A3 k3 c3],rfl,Or.inl ⟨by kernel_rfl,fun W2 _=>by go_simp⟩,(by simp only [Zc1];exact ⟨_,_,_,_,rfl,hf3⟩),?_⟩;exact ⟨_,.int .i64 0,rfl,Or.inl ⟨by kernel_rfl,fun W2 _=>by go_simp⟩,rfl,trivial⟩
  case hfin1 =>
   intro ν wx hb hP;have h2:=dot2 (hP (2,22) (by simp));have h5:=dot5 (hP (5,25) (by simp));have h6:=dot6 (hP (6,26) (by simp));have h9:=dot9 (hP (9,29) (by simp));have h10:=Zte (hP (10,30) (by simp));have h11:=Zs2 (hP (11,31) (by simp));have h12:=Zsz (hP (12,32) (by simp));have h13:=Zs3 (hP (13,33) (by simp));have h14:=dot14 (hP (14,19) (by simp));have h15:=dot15 (hP (15,34) (by simp));have h16:=dot16 (hP (16,35) (by simp));obtain ⟨_,_,_,_,h2,-⟩:=h2;obtain ⟨_,_,_,_,h6,-⟩:=h6;obtain ⟨_,_,_,_,h10,-⟩:=h10;obtain ⟨_,_,_,_,h11,-⟩:=h11;obtain ⟨_,_,_,_,h12,-⟩:=h12;obtain ⟨_,_,_,_,h13,-⟩:=h13;obtain ⟨_,_,_,_,h14,-⟩:=h14;obtain ⟨n5,A5,k5,c5,h15,hf5⟩:=h15;simp only [List.map_cons,List.map_nil,Zaw,Act.put,Zgj,Zfx,Zge];rw [h2,h5,h6,h9,h10,h11,h12,h13,h14,h15,h16];clear h2 h5 h6 h9 h10 h11 h12 h13 h14 h15 h16 hP ν;have hbx:=hr1.trans (hb.mono hr1.size);have qs6:=Zc hbx qs.out;have qr6:=Zc hbx qr.out;obtain ⟨W6,hW6,hB6,q6,kW6⟩:=Zav (B:=gs) n5 A5 k5 c5 (Below.refl gs wx) (Nat.le_refl _) qs6
   have hB7:Below w.heap.size w W6:=by
    rw [<- hW6];exact ((hBp.trans (hbx.mono hBp.size)).setCell (p:=⟨gs,0,none⟩) hgs _).setCell (p:=⟨gs,1,none⟩) hgs _
   have hf7:=Za (kW6.1 _ _ _ _ _ hf5);have qr7:=kW6.2.1 gr _ _ hgrs qr6;obtain ⟨y0,y1,y2,y3⟩:=qs6.two;replace q6:=Za q6;replace qr7:=Za qr7;replace hB7:=Za hB7;clear hf5 kW6 qs6 qr6 hB6;refine Zu (i:=17) rfl (by kernel_rfl) (by kernel_rfl) (fun K hK=>?_);go_simp;(try rw [hW6]);refine hK.out _ _ ?_;clear hK K
   try simp only [Act.put,Zgj,Zfx,Zge]
   refine Zk (by kernel_rfl) ?_ _;refine OnlyNormal.normal ?_;clear hW6 y0 y1 y2 y3 hbx hb hr1 hSv1 hxs1 ci s0 s1;go_wp2_with fail
   go_roundw
   case rel=>exact ⟨i+1,n5,A5,k5,c5,by omega,by go_num,hf7.out.same hnext.out.symm,q6.out,qr7.out,hB7.out⟩
   case measure=>simp [intOf];omega
open Go.RowKit Go.Shelf
attribute [local go_sem] Oper.semAt_some
def rsAt (es:List RS) (k:Nat):RS:=es[k]?.getD ⟨none,0,0⟩
def SL (w:World) (A:Option Addr) (n c:Nat) (es:List RS):Prop:=
 es.length=n/\n <= c/\c <= maxLen/\(0 < n->∃ g o,A=some ⟨g,o,none⟩/\∀ (k:Nat) (e:RS),es[k]?=some e->w.cell? ⟨g,o+k,none⟩=some (.slice e.A e.n e.c))
theorem SL.below {w w':World} {A:Option Addr} {n c:Nat} {es:List RS} (h:SL w A n c es) (hb:Below w.heap.size w w'):SL w' A n c es:=
 ⟨h.1,h.2.1,h.2.2.1,fun hn=>by
  obtain ⟨b,o,e,hc⟩:=h.2.2.2 hn
  exact ⟨b,o,e,fun k x hx=>Zb hb (hc k x hx)⟩⟩
theorem SL.at_ {w:World} {A:Option Addr} {n c:Nat} {es:List RS} (h:SL w A n c es) {k:Nat} (hk:k < n):∃ b o e,A=some ⟨b,o,none⟩/\es[k]?=some e/\w.cell? ⟨b,o+k,none⟩=some (.slice e.A e.n e.c):=by
 obtain ⟨h1,-,-,h4⟩:=h;obtain ⟨b,o,e,hc⟩:=h4 (by omega);have he:=List.getElem?_eq_getElem (l:=es) (i:=k) (by omega);exact ⟨b,o,es[k],e,he,hc k _ he⟩
theorem sl_kept {W W':World} {row:Option Nat} {A:Option Addr} {n c:Nat} {es:List RS} (h:SL W A n c es) (hg:W.grownBy W' row) (hrow:∀ r,row=some r->∃ o:Obj,W.heap[r]?=some o/\o.isCells=false):SL W' A n c es:=
 ⟨h.1,h.2.1,h.2.2.1,fun hn=>by
  obtain ⟨b,o,e,hc⟩:=h.2.2.2 hn
  exact ⟨b,o,e,fun k x hx=>cell_kept (hc k x hx) hg hrow⟩⟩
def KpR (Bs:Nat) (A:Option Addr) (n c:Nat) (es:List RS) (W W':World):Prop:=
 (W.cell? ⟨Bs,0,none⟩=some (.slice A n c)->W'.cell? ⟨Bs,0,none⟩=some (.slice A n c))/\(SL W A n c es->SL W' A n c es)
theorem KpR.trans {Bs n c:Nat} {A:Option Addr} {es:List RS} {W1 W2 W3:World} (h:KpR Bs A n c es W1 W2) (k:KpR Bs A n c es W2 W3):KpR Bs A n c es W1 W3:=⟨fun x=>k.1 (h.1 x),fun x=>k.2 (h.2 x)⟩
theorem KpR.put {Bs n c:Nat} {A:Option Addr} {es:List RS} (W:World) (lp:Nat) (o o':Obj) (ho:W.heap[lp]?=some o) (hc:o.isCells=false):KpR Bs A n c es W (W.putObj lp o'):=
 ⟨fun h=>cell_kept h (grownBy_putObj' W lp o') (fun r e=>by cases e;exact ⟨o,ho,hc⟩),fun h=>sl_kept h (grownBy_putObj' W lp o') (fun r e=>by cases e;exact ⟨o,ho,hc⟩)⟩
theorem Zu2 (A:Option Addr) (n c:Nat) (w:World) :
    Calls Tryz.prog 116 #[.slice A n c] w fun e w'=>e=.returned (.func (.func 155) #[] #[.pointer (some ⟨w.heap.size,0,none⟩)])/\w.alloc (.cells #[.slice A n c] 88)=w':=by
 go_enter Tryz.func116,Tryz.ntmps116
 go_wp2
 go_ret;exact ⟨rfl,rfl⟩
def Zw8 (d:Nat) (P:Program) (gf:Nat) (lb:Array Value) (encs:Nat->Array Value) (Kp:World->World->Prop) (N:Nat) (w:World):Prop:=
 ∀ (l:Nat) (J:Nat->World->Prop) (W:World),Below w.heap.size w W->AbidesFrom W.heap.size J ->
  (∀ k V,k < N->J k V->YieldAt Fence.wide (d - 1) P l (encs k) V fun e V'=>e=.returned (.bool true)/\J (k+1) V'/\Kp V V') ->
  J 0 W->CallsIn Fence.wide d P gf (#[.func (.yield l) #[] #[]] ++ lb) W fun e V'=>(∃ v,e=.returned v)/\J N V'
def goesOn (Kp:World->World->Prop) (J:World->Prop) (W:World):Exit->Act->World->Prop
 | .normal,_,W'=>KeepsOthers W W'/\Kp W W'/\J W'
 | .ret,_,_=>False
 | .exit _,_,_=>False
 | .goto _,_,_=>False
 | .panic _,_,_=>False
 | .outgrown,_,_=>False
theorem Zmg {d:Nat} {P:Program} {g:Operand} {ps:Array Tmp} {assign body:Code} {Q:Exit->Act->World->Prop} {a:Act} {w:World} (h1:1 <= d) {gf:Nat} {lb:Array Value}
    (hg:a.eval g=.func (.func gf) #[] lb) (eg:∀ args w,(callFunc gf args).run P w=.ok (.enter gf args) w)
    {encs:Nat->Array Value} {Kp:World->World->Prop} {N:Nat} {w0:World} (hseq:Zw8 (d - 1) P gf lb encs Kp N w0)
    (hKt:∀ {A B C:World},Kp A B->Kp B C->Kp A C) (hKb:∀ (W:World) (l:Nat) (o o':Obj),w.heap.size <= l->W.heap[l]?=some o->o.isCells=false->o.isWalk=false->Kp W (W.putObj l o')) (hb0:Below w0.heap.size w0 w) (hps:∀ k,(encs k).size=ps.size)
    (I:Nat->World->Prop) (hI:OwnFrom w.heap.size I) (h0:I 0 w) (a₁:Nat->Act)
    (hassign:∀ (l k:Nat) (W:World) (K:Act->World->Prop),k < N->K (a₁ k) W ->
     assign.wpIn (Fence.wide.inRound l) (d - 1 - 1) P (Exit.then K (fun _ _ _=>False)) { tmps:=(ps.zip (encs k)).foldl (fun t (p,v)=>t.setIfInBounds p v) a.tmps,defers:=[] } W)
    (hbody:∀ (l k:Nat) (W:World),k < N->I k W->body.wpIn (Fence.wide.inRound l) (d - 1 - 1) P (goesOn Kp (I (k+1)) W) (a₁ k) W)
    (hdone:∀ (D:Nat) (W:World),w.heap.size <= D->I N W->W.heap[D]?=some (.deferred (some []))->Q .normal { a with defers:={ target:=.collected D,args:=#[] } :: a.defers } W) :
    (Code.rangeFunc g ps assign body).wpIn Fence.wide d P Q a w:=by
 refine wpIn_rangeFunc fun fn hfn=>?_
 rw [show Fence.wide.round=none from rfl];obtain ⟨B,hB⟩:∃ B,w.heap.size=B:=⟨_,rfl⟩;rw [hB] at hI hKb hdone
 obtain ⟨rec,hrec⟩:∃ rec:LoopState->Option Code->Loop,rec=fun st pe=>{ state:=st,pending:=pe,fn,tmps:=a.tmps,params:=ps,assign,body,defers:=B }:=⟨_,rfl⟩
 obtain ⟨W1,hW1⟩:∃ V,(w.alloc (.deferred (some []))).alloc (.loop (rec .ready none))=V:=⟨_,rfl⟩
 have sz:W1.heap.size=B+1+1:=by rw [<- hW1,<- hB];simp
 have lp:W1.heap[B+1]?=some (.loop (rec .ready none)):=by
  have h:=World.alloc_heap_new (w.alloc (.deferred (some []))) (.loop (rec .ready none));rw [World.size_alloc,hB,hW1] at h;exact h
 have df:W1.heap[B]?=some (.deferred (some [])):=by
  rw [<- hW1,<- hB];exact (Below.heap_alloc _ _ _ (by simp)).trans (World.alloc_heap_new w _)
 have i1:I 0 W1:=by rw [<- hW1];exact hI.alloc _ (hI.alloc _ h0)
 have b1:Below w0.heap.size w0 W1:=by
  rw [<- hW1];exact hb0.trans (((Below.refl _ w).alloc (Nat.le_refl _) _).trans ((Below.refl _ _).alloc (by simp) _) |>.mono hb0.size)
 obtain ⟨J,hJ⟩:∃ J:Nat->World->Prop,J=fun k W=>I k W/\W.heap[B+1]?=some (.loop (rec .ready none))/\W.heap[B]?=some (.deferred (some [])):=⟨_,rfl⟩
 have key:=hseq (B+1) J W1 b1 (fun k X Y row hs hgr hr=>by
     rw [hJ] at hs ⊢
     have hr2:∀ r,row=some r->∃ o:Obj,X.heap[r]?=some o/\o.isWalk=true:=fun r e=>(hr r e).2
     refine ⟨hI k X Y row hs.1 hgr (fun r e=>?_),(grownBy_keeps hgr hr2 hs.2.1 rfl).trans hs.2.1,(grownBy_keeps hgr hr2 hs.2.2 rfl).trans hs.2.2⟩;obtain ⟨hl,o,ho,hw⟩:=hr r e
     exact ⟨by omega,o,ho,Obj.not_cells_of_walk hw⟩)
  (fun k V hk hs=>by
   rw [hJ] at hs;obtain ⟨hi,hl,hd⟩:=hs;have hlt:B+1 < V.heap.size:=(Array.getElem?_eq_some_iff.1 hl).1;have hy:=run_yield (P:=P) (args:=encs k) hl (by rw [hrec];exact hps k);rw [hrec] at hy;obtain ⟨V2,hV2⟩:∃ X,V.putObj (B+1) (.loop { rec .ready none with state:=.busy })=X:=⟨_,rfl⟩;refine ⟨fn,_,assign,body,hy,roundIn_of_wpIn hfn (hassign _ k V _ hk ⟨V2,by rw [<- hV2];exact run_beginRound hl (by rw [hrec]),?_⟩)⟩
   have hl2:V2.heap[B+1]?=some (.loop { rec .ready none with state:=.busy }):=by rw [<- hV2];exact World.putObj_heap_same hlt
   have hd2:V2.heap[B]?=some (.deferred (some [])):=by rw [<- hV2];exact (World.putObj_heap_other (by omega)).trans hd
   have hp2:Kp V V2:=by rw [<- hV2];exact hKb _ _ _ _ (by omega) hl rfl rfl
   have hi2:I k V2:=by rw [<- hV2];exact hI.putObj _ hi (by omega) hl rfl
   refine wpIn_mono (hbody _ k V2 hk hi2) fun e a3 V3 hq=>?_
   cases e with
   | normal =>
    obtain ⟨ko,kp,i3⟩:=hq;have hl3:=ko.same _ _ hl2 rfl;have hend:=run_endRound (P:=P) none hl3;rw [hrec] at hend hl3;refine ⟨_,_,hend,rfl,?_,hKt (hKt hp2 kp) (hKb _ _ _ _ (by omega) hl3 rfl rfl)⟩;rw [hJ];refine ⟨hI.putObj _ i3 (by omega) hl3 rfl,?_,(World.putObj_heap_other (by omega)).trans (ko.same _ _ hd2 rfl)⟩;rw [hrec];exact World.putObj_heap_same (Array.getElem?_eq_some_iff.1 hl3).1
   | ret=>exact hq.elim
   | exit id=>exact hq.elim
   | goto t=>exact hq.elim
   | panic ch=>exact hq.elim
   | outgrown=>exact hq.elim)
  (by rw [hJ];exact ⟨i1,lp,df⟩)
 refine ⟨B+1,[{ target:=.collected B,args:=#[] }],W1,{ target:=.fn (.func gf) lb,args:=#[.func (.yield (B+1)) #[] #[]] },W1,gf,#[.func (.yield (B+1)) #[] #[]] ++ lb,W1,?_,?_,fun _ _=>trivial,?_,fun _=>h1,?_⟩
 ·rw [<- hW1,hrec,<- hB];exact run_enterLoop_outer _ _ _ _ _
 ·simp only [resolve,hg]
  simp [go_sem]
 ·simp [invoke,go_sem,eg]
 ·refine key.mono ?_
  rintro e W2 ⟨⟨v,rfl⟩,hs⟩;rw [hJ] at hs;obtain ⟨hi,hl,hd⟩:=hs;have hend:=run_endLoop (P:=P) hl (by rw [hrec];simp);rw [hrec] at hend;exact ⟨none,_,hend,hdone _ _ (Nat.le_refl _) (hI.putObj _ hi (by omega) hl rfl) ((World.putObj_heap_other (by omega)).trans hd)⟩
def Zl6 (es:List RS) (n:Nat) (k:Nat):Array Value:=#[.int .i64 ((n - 1 - k:Nat):Int),RS.val (rsAt es (n - 1 - k))]
theorem Zvd (d:Nat) (hd:1 <= d) (Bs n c:Nat) (A:Option Addr) (es:List RS) (w:World) (hc:w.cell? ⟨Bs,0,none⟩=some (.slice A n c)) (hL0:SL w A n c es) :
    Zw8 d Tryz.prog 155 #[.pointer (some ⟨Bs,0,none⟩)] (Zl6 es n) (KpR Bs A n c es) n w:=by
 intro lp J W hW _ hY h0;have hBs:W.cell? ⟨Bs,0,none⟩=some (.slice A n c):=(hW.cell (Zp hc)).trans hc;have hL:SL W A n c es:=hL0.below hW;clear hW hc hL0;have hnc:=hL.2.1;have hcm:=hL.2.2.1;unfold maxLen at hcm;refine callsIn_of_wp Tryz.func155 rfl trivial ?_ rfl;simp only [Tryz.ntmps155,List.size_toArray,List.length_cons,List.length_nil,Nat.reduceAdd,Nat.reduceSub,Array.replicate_succ,Array.replicate_zero,List.push_toArray,List.append_toArray,List.nil_append,List.cons_append]
 gi_wp2
 gi_loopw [3] (fun i wr=>∃ k:Nat,k <= n/\i=.int .i64 ((n:Int) - 1 - k)/\J k wr/\Hid (wr.cell? ⟨Bs,0,none⟩=some (.slice A n c))/\SL wr A n c es)
  (fun i _=>(intOf i+1).toNat)
 case atStart=>exact ⟨0,Nat.zero_le _,by go_num,h0,hBs,hL⟩
 case round =>
  obtain ⟨k,hk,rfl,hJs,hbx',hLr⟩:=hrel;have hbx:=hbx'.out
  by_cases hlt:k < n
  ·obtain ⟨b,o,e,rfl,he,hc1⟩:=hLr.at_ (k:=n - 1 - k) (by omega)
   obtain ⟨fn,tmps,assign,body,hy,hR⟩:=hY k wr hlt hJs;dsimp only [Zl6,RS.val,rsAt] at hy;rw [he,Option.getD_some] at hy;rw [show ((n - 1 - k:Nat):Int)=(n:Int) - 1 - k by omega] at hy
   gi_wp2
   refine hR.mono ?_;rintro e W3 ⟨rfl,hJ3,hk3⟩;have hbx3:=Za (hk3.1 hbx'.out)
   gi_wp2
   go_roundw
   case rel=>exact ⟨k+1,by omega,by go_num,hJ3,hbx3,hk3.2 hLr⟩
   case measure=>simp [intOf];omega
  ·obtain rfl:k=n:=by omega
   gi_wp2
   go_end0
   exact ⟨⟨_,rfl⟩,hJs⟩
end Go.Proofs.YtigdclhagmnopaaGreat
