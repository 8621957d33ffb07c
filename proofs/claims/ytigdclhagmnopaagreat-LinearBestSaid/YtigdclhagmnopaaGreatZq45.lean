/- The law's alive. -/
import Derived.Test.YtigdclhagmnopaaGreatZq44
set_option maxRecDepth 100000
set_option maxHeartbeats 8000000
set_option linter.unusedSimpArgs false
set_option linter.unusedVariables false
namespace Go.Proofs.YtigdclhagmnopaaGreat
open Go.RowKit
attribute [local go_sem] Zh
theorem LimI.lit {w:World} {g:Nat} {t:TypeId} {l:List Int} {cs:Array Value} (h:Blk w g t cs) (hc:cs=(l.map (fun x=>Value.int .i64 x)).toArray) (hl:∀ x ∈ l,I64 x) (hn:l.length <= 1000):LimI w (some ⟨g,0,none⟩) l.length l.length l:=by
 subst hc;refine ⟨rfl,Nat.le_refl _,by unfold maxLen;omega,hl,fun _=>⟨g,0,rfl,fun k hk=>?_⟩⟩;rw [Nat.zero_add,h.cell]
 simp [List.getElem?_eq_getElem hk]
theorem MFL.two {w:World} {g:Nat} {t:TypeId} {A B:Option Addr} {n c m d:Nat} {p q:List Rat} (h:Blk w g t #[.slice A n c,.slice B m d]) (hp:FL w A n c p) (hq:FL w B m d q):MFL w (some ⟨g,0,none⟩) 2 2 [p,q]:=by
 refine ⟨rfl,Nat.le_refl _,by unfold maxLen;omega,fun _=>⟨g,0,rfl,fun k r hr=>?_⟩⟩
 match k,hr with
 | 0,hr=>cases hr;exact ⟨A,n,c,h.cell 0,hp⟩
 | 1,hr=>cases hr;exact ⟨B,m,d,h.cell 1,hq⟩
 | k+2,hr=>simp at hr
theorem FL.two {w:World} {g:Nat} {t:TypeId} {xn:Bool} {xA:Option Addr} {xk xc:Nat} {xm:Bool} {xB:Option Addr} {xj xd:Nat} {yn:Bool} {yA:Option Addr} {yk yc:Nat} {ym:Bool} {yB:Option Addr} {yj yd:Nat} {p q:Rat} (h:Blk w g t #[.bool xn,.slice xA xk xc,.bool xm,.slice xB xj xd,.bool yn,.slice yA yk yc,.bool ym,.slice yB yj yd]) (hp:Fr w xn xA xk xc xm xB xj xd p) (hq:Fr w yn yA yk yc ym yB yj yd q):FL w (some ⟨g,0,none⟩) 2 2 [p,q]:=by
 refine ⟨[⟨xn,xA,xk,xc,xm,xB,xj,xd,p⟩,⟨yn,yA,yk,yc,ym,yB,yj,yd,q⟩],rfl,Nat.le_refl _,by unfold maxLen;omega,fun e he=>?_,rfl,fun _=>⟨g,0,rfl,fun k r hr=>?_⟩⟩
 ·simp only [List.mem_cons,List.not_mem_nil,or_false] at he
  rcases he with rfl | rfl
  ·exact hp
  ·exact hq
 ·match k,hr with
  | 0,hr=>cases hr;exact ⟨h.cell 0,h.cell 1,h.cell 2,h.cell 3⟩
  | 1,hr=>cases hr;exact ⟨h.cell 4,h.cell 5,h.cell 6,h.cell 7⟩
  | k+2,hr=>simp at hr
theorem MIL.three {w:World} {g:Nat} {t:TypeId} {a b c:RI} (h:Blk w g t #[.slice a.A a.n a.c,.slice b.A b.n b.c,.slice c.A c.n c.c]) (ha:LimI w a.A a.n a.c a.l) (hb:LimI w b.A b.n b.c b.l) (hc:LimI w c.A c.n c.c c.l):MIL w (some ⟨g,0,none⟩) 3 3 [a,b,c]:=by
 refine ⟨rfl,Nat.le_refl _,by unfold maxLen;omega,fun r hr=>?_,fun _=>⟨g,0,rfl,fun k r hr=>?_⟩⟩
 ·simp only [List.mem_cons,List.not_mem_nil,or_false] at hr
  rcases hr with rfl | rfl | rfl
  ·exact ha
  ·exact hb
  ·exact hc
 ·match k,hr with
  | 0,hr=>cases hr;exact h.cell 0
  | 1,hr=>cases hr;exact h.cell 1
  | 2,hr=>cases hr;exact h.cell 2
  | k+3,hr=>simp at hr
theorem Fr.df {w:World} {na:Bool} {A:Option Addr} {n c:Nat} {nb:Bool} {B:Option Addr} {m d:Nat} {q:Rat} (h:Fr w na A n c nb B m d q):na=(dfQ q).na/\nb=(dfQ q).nb/\Lim w A n c (dfQ q).la/\Lim w B m d (dfQ q).lb:=by
 have h3:=h.2.2.2;rw [Int.natAbs_natCast] at h3;exact ⟨h.1.1,h.neg,h.1.2.2,h3⟩
theorem smE_of {k:Nat} {Q:List (List Rat)} (h:∀ r ∈ Q,∀ q ∈ r,q.num.natAbs <= pw k/\q.den <= pw k):SmE k Q:=fun i j=>by
 unfold Zn
 by_cases hi:i < Q.length
 ·rw [List.getElem?_eq_getElem hi,Option.getD_some]
  by_cases hj:j < Q[i].length
  ·rw [List.getElem?_eq_getElem hj,Option.getD_some]
   exact h _ (List.getElem_mem _) _ (List.getElem_mem _)
  ·rw [List.getElem?_eq_none (l:=Q[i]) (by omega)];exact Zg1 k
 ·rw [List.getElem?_eq_none (l:=Q) (by omega)];exact Zg1 k
theorem Zs4 {q:Rat} (h:q.num.natAbs <= 9) (h2:q.den <= 9):Sm8 q:=by
 have:9 < pw 8:=by decide +kernel
 exact ⟨by omega,by omega⟩
theorem Zn1 {q:Rat} (h:q.num.natAbs <= 9) (h2:q.den <= 9):q.num.natAbs <= pw 2/\q.den <= pw 2:=by
 have:9 <= pw 2:=by decide +kernel
 exact ⟨by omega,by omega⟩
theorem Ze5:∀ r ∈ ([[1,2],[3,4]]:List (List Rat)),∀ q ∈ r,q.num.natAbs <= 9/\q.den <= 9:=by decide +kernel
theorem Zlq:∀ q ∈ ([5,6]:List Rat),q.num.natAbs <= 9/\q.den <= 9:=by decide +kernel
theorem Zjc:SmallQ [[1,2],[3,4]] 2:=by
 refine ⟨by decide,by decide,rfl,fun i hi=>?_,smE_of fun r hr q hq=>Zn1 (Ze5 r hr q hq).1 (Ze5 r hr q hq).2⟩
 match i,hi with
 | 0,_=>rfl
 | 1,_=>rfl
theorem Znf:Z1 2 (Zn [[1,2],[3,4]])=-2:=by decide +kernel
theorem Zts (A B C:Option Addr) (a b c:Nat):Z1 2 (Za0 [⟨A,2,a,[1,0]⟩,⟨B,2,b,[1,1]⟩,⟨C,2,c,[1,2]⟩] [1,1,1] 3) ≠ 0:=by
 have:Z1 2 (Za0 [⟨A,2,a,[1,0]⟩,⟨B,2,b,[1,1]⟩,⟨C,2,c,[1,2]⟩] [1,1,1] 3)=Z1 2 (Za0 [⟨none,2,2,[1,0]⟩,⟨none,2,2,[1,1]⟩,⟨none,2,2,[1,2]⟩] [1,1,1] 3):=rfl;rw [this]
 decide +kernel
theorem Zus (A B C:Option Addr) (a b c:Nat):Zb2 [⟨A,2,a,[1,0]⟩,⟨B,2,b,[1,1]⟩,⟨C,2,c,[1,2]⟩] [0,1,1] [1,1,1]=0:=by
 have:Zb2 [⟨A,2,a,[1,0]⟩,⟨B,2,b,[1,1]⟩,⟨C,2,c,[1,2]⟩] [0,1,1] [1,1,1]=Zb2 [⟨none,2,2,[1,0]⟩,⟨none,2,2,[1,1]⟩,⟨none,2,2,[1,2]⟩] [0,1,1] [1,1,1]:=rfl;rw [this]
 decide +kernel
theorem Zp2 {X:Nat->Rat} (h:∀ i,i < 2->sumQ 2 (fun j=>Zn [[1,2],[3,4]] i j * X j)=([5,6]:List Rat)[i]?.getD 0):(List.range 2).map X=[-4,9 / 2]:=by
 have h0:=h 0 (by decide);have h1:=h 1 (by decide);have e0:(0:Rat)+1 * X 0+2 * X 1=5:=h0;have e1:(0:Rat)+3 * X 0+4 * X 1=6:=h1
 have a0:X 0=-4:=by grind
 have a1:X 1=9 / 2:=by grind
 show [X 0,X 1]=_;rw [a0,a1]
theorem Zpm {A B C:Option Addr} {a b c:Nat} {x:Nat->Rat} (h:Zey [⟨A,2,a,[1,0]⟩,⟨B,2,b,[1,1]⟩,⟨C,2,c,[1,2]⟩] [0,1,1] [1,1,1] x 3 2):(List.range 2).map x=[1 / 6,1 / 2]/\Zby [⟨A,2,a,[1,0]⟩,⟨B,2,b,[1,1]⟩,⟨C,2,c,[1,2]⟩] [0,1,1] [1,1,1] x 2 3=1 / 6:=by
 have hs:=Zqu h;have h0:=h 0 (by decide);have h1:=h 1 (by decide);have e0:(0:Rat)+((3:Int):Rat) * x 0+((3:Int):Rat) * x 1=((2:Int):Rat):=h0;have e1:(0:Rat)+((3:Int):Rat) * x 0+((5:Int):Rat) * x 1=((3:Int):Rat):=h1;have e2:Zjj [⟨A,2,a,[1,0]⟩,⟨B,2,b,[1,1]⟩,⟨C,2,c,[1,2]⟩] [0,1,1] [1,1,1] x 3 2=((2:Int):Rat) - ((0:Rat)+x 0 * ((2:Int):Rat)+x 1 * ((3:Int):Rat)):=rfl;have c2:((2:Int):Rat)=2:=rfl;have c3:((3:Int):Rat)=3:=rfl;have c5:((5:Int):Rat)=5:=rfl;rw [c3,c2] at e0;rw [c3,c5] at e1;rw [c3,c2] at e2
 have a1:x 1=1 / 2:=by grind
 have a0:x 0=1 / 6:=by grind
 refine ⟨?_,?_⟩
 ·show [x 0,x 1]=_
  rw [a0,a1]
 ·rw [hs,e2,a0,a1]
  grind
theorem Zvm (w:World):Calls Tryz.prog 32 #[] w fun e w'=>e=.returned (.bool true)/\Below w.heap.size w w':=by
 have hmx:Tryz.prog.follows .mixedOrders=true:=by kernel_rfl
 have i64:∀ l:List Int,(∀ x ∈ l,x.natAbs <= 9)->∀ x ∈ l,I64 x:=fun l h x hx=>by have:=h x hx;unfold I64;omega
 obtain ⟨g1,hg1⟩:∃ g,w.heap.size=g:=⟨_,rfl⟩;obtain ⟨V1,hV1,qa,hbV1⟩:=Za2 (w:=w) 2 #[.int .i64 1,.int .i64 2];have hl1:=LimI.lit (l:=[1,2]) qa rfl (i64 _ (by decide)) (by decide);rw [hg1] at hl1;go_enter Tryz.func32,Tryz.ntmps32;go_wp2_with fail;(try rw [hg1]);(try rw [hV1]);clear hV1 qa;replace hg1:=Za hg1;refine (Zn2 (some ⟨g1,0,none⟩) 2 2 [1,2] V1 hl1 (by decide)).mono ?_;rintro e w2 ⟨v2,rfl,hb2,hO2⟩;have hB2:=hbV1.trans (hb2.mono hbV1.size);obtain ⟨A2,c2,rfl,hF2⟩:=hO2.fl;replace hF2:FL w2 A2 2 c2 [1,2]:=hF2;replace hF2:=Za hF2;clear hO2 hl1 hb2 hbV1;obtain ⟨g2,hg2⟩:∃ g,w2.heap.size=g:=⟨_,rfl⟩;obtain ⟨V2,hV2,qa,hbV2⟩:=Za2 (w:=w2) 2 #[.int .i64 3,.int .i64 4];have hl1:=LimI.lit (l:=[3,4]) qa rfl (i64 _ (by decide)) (by decide);rw [hg2] at hl1;simp only [List.map_cons,List.map_nil,List.length_cons,List.length_nil];go_wp2_with fail;(try rw [hg2]);(try rw [hV2]);clear hV2 qa;replace hg2:=Za hg2;refine (Zn2 (some ⟨g2,0,none⟩) 2 2 [3,4] V2 hl1 (by decide)).mono ?_;rintro e w3 ⟨v3,rfl,hb3,hO3⟩;have hb23:=hbV2.trans (hb3.mono hbV2.size);have hB3:=hB2.trans (hb23.mono hB2.size);obtain ⟨A3,c3,rfl,hF3⟩:=hO3.fl;replace hF3:FL w3 A3 2 c3 [3,4]:=hF3;replace hF2:=Za (hF2.out.below hb23);replace hF3:=Za hF3;clear hO3 hl1 hb3 hbV2 hb23 hB2;obtain ⟨g4,hg4⟩:∃ g,w3.heap.size=g:=⟨_,rfl⟩;obtain ⟨V4,hV4,qa,hbV4⟩:=Za2 (w:=w3) 40 #[.slice A2 2 c2,.slice A3 2 c3];rw [hg4] at qa;have hM4:=MFL.two qa (hF2.out.below hbV4) (hF3.out.below hbV4)
 obtain ⟨rs,hM,hqm,hrows⟩:=hM4.mxl (fun r hr q hq=>Zs4 (Ze5 r hr q hq).1 (Ze5 r hr q hq).2);have hB4:=hB3.trans (hbV4.mono hB3.size)
 have hfine:=Zpq hM (m:=2) (by decide) (by decide) (by decide) (by decide) (fun r hr=>by
  obtain ⟨k,hk,rfl⟩:=List.getElem_of_mem hr;have h5:=hrows k _ (List.getElem?_eq_getElem hk)
  have hk2:k < 2:=by rw [<- hM.1];exact hk
  refine ⟨h5.1.trans ?_,h5.2⟩
  match k,hk2 with
  | 0,_=>rfl
  | 1,_=>rfl)
 have hsq:sqE rs=0:=by
  unfold sqE;rw [if_pos hfine.1,if_pos (by rw [hfine.2,hM.1])]
 obtain ⟨dd,hdd,hdet⟩:=det_one 0 [[1,2],[3,4]] 2 (fun _=>Zjc)
 obtain ⟨E5,ds5,hds5,hsol⟩:=Zur 0 true [[1,2],[3,4]] [5,6] 2 2 (fun _=>Zjc) (fun _ i=>by
  by_cases hi:i < 2
  ·match i,hi with
   | 0,_=>exact Zn1 (by decide +kernel) (by decide +kernel)
   | 1,_=>exact Zn1 (by decide +kernel) (by decide +kernel)
  ·rw [List.getElem?_eq_none (by simp;omega)];exact Zg1 2)
 have hE5:E5=0/\ds5=[dfQ (-4),dfQ (9 / 2)]:=by
  rcases hds5 rfl rfl rfl with ⟨h1,-⟩ | ⟨-,h2,X,h3,h4,-⟩
  ·rw [Znf] at h1
   exact absurd h1 (by decide +kernel)
  ·refine ⟨h2,?_⟩
   rw [h3,Zp2 h4]
   rfl
 obtain ⟨rfl,rfl⟩:=hE5;replace hdd:=hdd rfl;rw [Znf] at hdd;subst hdd;replace hdet:=Za hdet;replace hsol:=Za hsol;replace hM:=Za hM;replace hsq:=Za hsq;replace hqm:=Za hqm;clear hds5 hfine hrows hM4 hF2 hF3 qa;go_wp2_with fail;(try rw [hg4]);(try rw [hV4]);clear hV4;replace hg4:=Za hg4;refine (hdet.out V4 (some ⟨g4,0,none⟩) 2 rs hM.out hsq.out hqm.out).mono ?_;rintro e w5 ⟨dA,dk,dc,dB,dj,dd1,rfl,hb5,l1,l2⟩;have hB5:=hB4.trans (hb5.mono hB4.size);obtain ⟨g5,hg5⟩:∃ g,w5.heap.size=g:=⟨_,rfl⟩;obtain ⟨V5,hV5,q5,hbV5⟩:=Za2 (w:=w5) 45 #[.bool (dfQ (-2)).na,.slice dA dk dc,.bool (dfQ (-2)).nb,.slice dB dj dd1];rw [hg5] at q5;have hB5':=hB5.trans (hbV5.mono hB5.size);have hb45:=hb5.trans (hbV5.mono hb5.size);replace l1:=Za (l1.below hbV5);replace l2:=Za (l2.below hbV5);replace q5:=Za q5;replace hM:=Za (hM.out.below hb45);clear hdet hb5 hbV5 hb45 hB4 hB5;obtain ⟨g6,hg6⟩:∃ g,V5.heap.size=g:=⟨_,rfl⟩;obtain ⟨V6,hV6,qa,hbV6⟩:=Za2 (w:=V5) 2 #[.int .i64 5,.int .i64 6];have hl1:=LimI.lit (l:=[5,6]) qa rfl (i64 _ (by decide)) (by decide);rw [hg6] at hl1;go_wp2_with fail;(try rw [hg5]);(try rw [hV5]);(try rw [hg6]);(try rw [hV6]);clear hV5 hV6 qa;replace hg5:=Za hg5;replace hg6:=Za hg6;refine (Zn2 (some ⟨g6,0,none⟩) 2 2 [5,6] V6 hl1 (by decide)).mono ?_;rintro e w7 ⟨v7,rfl,hb7,hO7⟩;have hb57:=hbV6.trans (hb7.mono hbV6.size);have hB7:=hB5'.trans (hb57.mono hB5'.size);obtain ⟨A7,c7,rfl,hF7⟩:=hO7.fl;replace hF7:FL w7 A7 2 c7 [5,6]:=hF7
 obtain ⟨es,hX7,heq,hvec⟩:=hF7.fxl (fun q hq=>Zs4 (Zlq q hq).1 (Zlq q hq).2);replace hM:=Za (hM.out.below hb57);replace l1:=Za (l1.out.below hb57);replace l2:=Za (l2.out.below hb57);replace q5:=Za (Zc hb57 q5.out);replace hX7:=Za hX7;replace hvec:=Za hvec;replace heq:=Za heq;clear hO7 hF7 hb7 hbV6 hb57 hB5' hl1;simp only [List.map_cons,List.map_nil,List.length_cons,List.length_nil];go_wp2_with fail;refine ((hsol.out w7 (some ⟨g4,0,none⟩) A7 2 c7 rs es hM.out hX7.out hsq.out hqm.out hvec.out heq.out)).mono ?_;rintro e w8 ⟨A8,n8,c8,rfl,hb8,y1⟩;have hB8:=hB7.trans (hb8.mono hB7.size);obtain rfl:2=n8:=y1.1;replace l1:=Za (l1.out.below hb8);replace l2:=Za (l2.out.below hb8);replace q5:=Za (Zc hb8 q5.out);replace y1:=Za y1;clear hsol hM hX7 hvec heq hsq hqm hb8 hB7;obtain ⟨k1,hk1⟩:∃ g,w8.heap.size=g:=⟨_,rfl⟩;obtain ⟨U1,hU1,r1,hbU1⟩:=Za2 (w:=w8) 2 #[.int .i64 1,.int .i64 0];rw [hk1] at r1;obtain ⟨k2,hk2⟩:∃ g,U1.heap.size=g:=⟨_,rfl⟩;obtain ⟨U2,hU2,r2,hbU2⟩:=Za2 (w:=U1) 2 #[.int .i64 1,.int .i64 1];rw [hk2] at r2;obtain ⟨k3,hk3⟩:∃ g,U2.heap.size=g:=⟨_,rfl⟩;obtain ⟨U3,hU3,r3,hbU3⟩:=Za2 (w:=U2) 2 #[.int .i64 1,.int .i64 2];rw [hk3] at r3;obtain ⟨k4,hk4⟩:∃ g,U3.heap.size=g:=⟨_,rfl⟩;obtain ⟨U4,hU4,r4,hbU4⟩:=Za2 (w:=U3) 34 #[.slice (some ⟨k1,0,none⟩) 2 2,.slice (some ⟨k2,0,none⟩) 2 2,.slice (some ⟨k3,0,none⟩) 2 2];rw [hk4] at r4;obtain ⟨k5,hk5⟩:∃ g,U4.heap.size=g:=⟨_,rfl⟩;obtain ⟨U5,hU5,r5,hbU5⟩:=Za2 (w:=U4) 2 #[.int .i64 0,.int .i64 1,.int .i64 1];rw [hk5] at r5
 obtain ⟨k6,hk6⟩:∃ g,U5.heap.size=g:=⟨_,rfl⟩;obtain ⟨U6,hU6,r6,hbU6⟩:=Za2 (w:=U5) 2 #[.int .i64 1,.int .i64 1,.int .i64 1];rw [hk6] at r6;have h56:=hbU5.trans (hbU6.mono hbU5.size);have h46:=hbU4.trans (h56.mono hbU4.size);have h36:=hbU3.trans (h46.mono hbU3.size);have h26:=hbU2.trans (h36.mono hbU2.size);have h16:=hbU1.trans (h26.mono hbU1.size);have hB9:=hB8.trans (h16.mono hB8.size);have la:=LimI.lit (l:=[1,0]) (Zc h26 r1) rfl (i64 _ (by decide)) (by decide);have lb:=LimI.lit (l:=[1,1]) (Zc h36 r2) rfl (i64 _ (by decide)) (by decide);have lc:=LimI.lit (l:=[1,2]) (Zc h46 r3) rfl (i64 _ (by decide)) (by decide);have hMI:=Za (MIL.three (a:=⟨some ⟨k1,0,none⟩,2,2,[1,0]⟩) (b:=⟨some ⟨k2,0,none⟩,2,2,[1,1]⟩) (c:=⟨some ⟨k3,0,none⟩,2,2,[1,2]⟩) (Zc h56 r4) la lb lc);have hR5:=Za (LimI.lit (l:=[0,1,1]) (Zc hbU6 r5) rfl (i64 _ (by decide)) (by decide));have hR6:=Za (LimI.lit (l:=[1,1,1]) r6 rfl (i64 _ (by decide)) (by decide));replace l1:=Za (l1.out.below h16);replace l2:=Za (l2.out.below h16);replace q5:=Za (Zc h16 q5.out);replace y1:=Za (y1.out.below h16);obtain ⟨E9,ds9,d9,-,hds9,hlst⟩:=Znq [⟨some ⟨k1,0,none⟩,2,2,[1,0]⟩,⟨some ⟨k2,0,none⟩,2,2,[1,1]⟩,⟨some ⟨k3,0,none⟩,2,2,[1,2]⟩] [0,1,1] [1,1,1]
 have hE9:E9=0/\ds9=[dfQ (1 / 6),dfQ (1 / 2)]/\d9=dfQ (1 / 6):=by
  rcases hds9 (Zus _ _ _ _ _ _) with ⟨h1,-⟩ | ⟨-,h2,X,h3,h4,h5,-⟩
  ·exact absurd h1 (Zts _ _ _ _ _ _)
  ·have h6:=Zpm h5
   have e1:ds9=((List.range 2).map X).map dfQ:=h3;have e2:d9=dfQ (Zby [⟨some ⟨k1,0,none⟩,2,2,[1,0]⟩,⟨some ⟨k2,0,none⟩,2,2,[1,1]⟩,⟨some ⟨k3,0,none⟩,2,2,[1,2]⟩] [0,1,1] [1,1,1] X 2 3):=h4;refine ⟨h2,?_,?_⟩
   ·rw [e1,h6.1];rfl
   ·rw [e2,h6.2]
 obtain ⟨rfl,rfl,rfl⟩:=hE9;replace hlst:=Za hlst;clear hds9 la lb lc r1 r2 r3 r4 r5 r6 hbU1 hbU2 hbU3 hbU4 hbU5 hbU6 h56 h46 h36 h26 h16 hB8;go_wp2_with fail;(try rw [hk1]);(try rw [hU1]);(try rw [hk2]);(try rw [hU2]);(try rw [hk3]);(try rw [hU3]);(try rw [hk4]);(try rw [hU4]);(try rw [hk5]);(try rw [hU5]);(try rw [hk6]);(try rw [hU6]);clear hU1 hU2 hU3 hU4 hU5 hU6;replace hk1:=Za hk1;replace hk2:=Za hk2;replace hk3:=Za hk3;replace hk4:=Za hk4;replace hk5:=Za hk5;replace hk6:=Za hk6;refine ((hlst.out U6 (some ⟨k4,0,none⟩) (some ⟨k5,0,none⟩) (some ⟨k6,0,none⟩) 3 3 3 3 3 3 hMI.out hR5.out hR6.out)).mono ?_;rintro e w9 ⟨A9,n9,c9,sA,sk,sc,sB,sj,sd,rfl,hb9,y2,l3,l4⟩;obtain rfl:2=n9:=y2.1;have hB10:=hB9.trans (hb9.mono hB9.size);obtain ⟨g10,hg10⟩:∃ g,w9.heap.size=g:=⟨_,rfl⟩;obtain ⟨V10,hV10,q10,hbV10⟩:=Za2 (w:=w9) 45 #[.bool (dfQ (1 / 6)).na,.slice sA sk sc,.bool (dfQ (1 / 6)).nb,.slice sB sj sd];rw [hg10] at q10;have hb9':=hb9.trans (hbV10.mono hb9.size);have hB11:=Za (hB10.trans (hbV10.mono hB10.size));replace l1:=Za (l1.out.below hb9');replace l2:=Za (l2.out.below hb9');replace q5:=Za (Zc hb9' q5.out);replace y1:=Za (y1.out.below hb9');replace y2:=Za (y2.below hbV10);replace l3:=Za (l3.below hbV10);replace l4:=Za (l4.below hbV10);replace q10:=Za q10;clear hlst hMI hR5 hR6 hb9 hb9' hbV10 hB9 hB10;go_wp2_with fail;(try rw [hg10]);(try rw [hV10]);clear hV10;replace hg10:=Za hg10;obtain ⟨c0,c1,c2',c3',-⟩:=q5.out.four
 refine Zaj [] (fun wx=>wx.cell? ⟨g5,0,none⟩=some (.bool (dfQ (-2)).na)/\wx.cell? ⟨g5,1,none⟩=some (.slice dA dk dc)/\wx.cell? ⟨g5,2,none⟩=some (.bool (dfQ (-2)).nb)/\wx.cell? ⟨g5,3,none⟩=some (.slice dB dj dd1)) hmx ⟨c0,c1,c2',c3'⟩ (fun _=>?_);refine Zi4 4 [0,1,2,3] rfl (by kernel_rfl) ⟨c0,c1,c2',c3'⟩ ?_
 iterate 4 (refine tk1 (v:=?_) rfl (Or.inl ⟨by kernel_rfl,?_⟩) ?_;rotate_left;(· intro W2 hSw;(try dsimp only at hSw);go_simp;try with_reducible rfl);try simp only [Act.put,Zgj,Zfx,Zge,putG_a,putG_s,putG_z])
 refine tk0 ?_;refine Ze (i:=4) rfl (by kernel_rfl) (fun K hK=>?_);(try rw [if_pos (by kernel_rfl)]);go_simp;refine (Zds (-2) 1 V10.drew (by decide) (by decide) (by decide) (by decide)).mono ?_;rintro e x1 ⟨hx1,pn,pA,pk,pc,pm,pB,pj,pd,rfl,hp⟩;rw [Zcx] at hp;replace hx1:=Zo hx1;obtain ⟨e1,e2,m1,m2⟩:=hp.df;replace l1:=Za (l1.out.below hx1);replace l2:=Za (l2.out.below hx1);replace c0:=Zb hx1 c0;replace c1:=Zb hx1 c1;replace c2':=Zb hx1 c2';replace c3':=Zb hx1 c3';refine hK.out _ _ (fun _=>⟨c0,c1,c2',c3'⟩) ?_;clear hK K
 try simp only [Act.put,Zgj,Zfx,Zge]
 subst e1 e2;refine Ze (i:=5) rfl (by kernel_rfl) (fun K hK=>?_);(try rw [if_pos (by kernel_rfl)]);go_simp;refine (Zh7 (dfQ (-2)).na (dfQ (-2)).nb dA dB pA pB dk dc dj dd1 pk pc pj pd (dfQ (-2)).la (dfQ (-2)).lb x1 l1.out l2.out m1 m2).mono ?_;rintro e x2 ⟨rfl,hx2⟩;replace c0:=Zb hx2 c0;replace c1:=Zb hx2 c1;replace c2':=Zb hx2 c2';replace c3':=Zb hx2 c3';refine hK.out _ _ (fun _=>⟨c0,c1,c2',c3'⟩) ?_;clear hK K
 try simp only [Act.put,Zgj,Zfx,Zge]
 refine Zi4 7 [6,7,8,9,10,11,12] rfl (by kernel_rfl) ⟨c0,c1,c2',c3'⟩ ?_
 iterate 7 (refine tk1 (v:=?_) rfl (Or.inl ⟨by kernel_rfl,?_⟩) ?_;rotate_left;(· intro W2 hSw;(try dsimp only at hSw);go_simp;try with_reducible rfl);try simp only [Act.put,Zgj,Zfx,Zge,putG_a,putG_s,putG_z])
 refine tk0 ?_;have hx12:=hx1.trans (hx2.mono hx1.size);replace y1:=Za (y1.out.below hx12);replace y2:=Za (y2.out.below hx12);replace l3:=Za (l3.out.below hx12);replace l4:=Za (l4.out.below hx12);replace q10:=Za (Zc hx12 q10.out);replace hB11:=Za (hB11.out.trans (hx12.mono hB11.out.size));clear hx12 hx1 hx2 m1 m2 hp l1 l2 q5;refine Ze (i:=13) rfl (by kernel_rfl) (fun K hK=>?_);(try rw [if_pos (by kernel_rfl)]);go_simp;refine (Zds (-4) 1 x2 (by decide) (by decide) (by decide) (by decide)).mono ?_;rintro e x3 ⟨h1,un,uA,uk,uc,um,uB,uj,ud,rfl,hu⟩;replace c0:=Zb h1 c0;replace c1:=Zb h1 c1;replace c2':=Zb h1 c2';replace c3':=Zb h1 c3';replace y1:=Za (y1.out.below h1);replace y2:=Za (y2.out.below h1);replace l3:=Za (l3.out.below h1);replace l4:=Za (l4.out.below h1);replace q10:=Za (Zc h1 q10.out);replace hB11:=Za (hB11.out.trans (Below.mono h1 hB11.out.size));clear h1;refine hK.out _ _ (fun _=>⟨c0,c1,c2',c3'⟩) ?_;clear hK K
 try simp only [Act.put,Zgj,Zfx,Zge]
 refine Ze (i:=14) rfl (by kernel_rfl) (fun K hK=>?_);(try rw [if_pos (by kernel_rfl)]);go_simp;refine (Zds 9 2 x3 (by decide) (by decide) (by decide) (by decide)).mono ?_;rintro e x4 ⟨h2,vn,vA,vk,vc,vm,vB,vj,vd,rfl,hv⟩;replace hu:=hu.below h2;replace c0:=Zb h2 c0;replace c1:=Zb h2 c1;replace c2':=Zb h2 c2';replace c3':=Zb h2 c3';replace y1:=Za (y1.out.below h2);replace y2:=Za (y2.out.below h2);replace l3:=Za (l3.out.below h2);replace l4:=Za (l4.out.below h2);replace q10:=Za (Zc h2 q10.out);replace hB11:=Za (hB11.out.trans (Below.mono h2 hB11.out.size));clear h2;refine hK.out _ _ (fun _=>⟨c0,c1,c2',c3'⟩) ?_;clear hK K
 try simp only [Act.put,Zgj,Zfx,Zge]
 obtain ⟨gl,hgl⟩:∃ g,x4.heap.size=g:=⟨_,rfl⟩;obtain ⟨Vl,hVl,ql,hbl⟩:=Za2 (w:=x4) 45 #[.bool un,.slice uA uk uc,.bool um,.slice uB uj ud,.bool vn,.slice vA vk vc,.bool vm,.slice vB vj vd];rw [hgl] at ql;have hFl:=(FL.two ql (hu.below hbl) (hv.below hbl)).xl;refine Ze (i:=15) rfl (by kernel_rfl) (fun K hK=>?_);(try rw [if_pos (by kernel_rfl)]);go_simp;(try rw [hgl]);(try rw [hVl]);clear hVl;replace c0:=Zb hbl c0;replace c1:=Zb hbl c1;replace c2':=Zb hbl c2';replace c3':=Zb hbl c3';replace y1:=Za (y1.out.below hbl);replace y2:=Za (y2.out.below hbl);replace l3:=Za (l3.out.below hbl);replace l4:=Za (l4.out.below hbl);replace q10:=Za (Zc hbl q10.out);replace hB11:=Za (hB11.out.trans (Below.mono hbl hB11.out.size));clear hbl;refine hK.out _ _ (fun _=>⟨c0,c1,c2',c3'⟩) ?_;clear hK K
 try simp only [Act.put,Zgj,Zfx,Zge]
 rw [show [Rat.divInt (-4) 1,Rat.divInt 9 2].map dfQ=[dfQ (-4),dfQ (9 / 2)] by
  simp only [List.map_cons,List.map_nil]
  rw [show Rat.divInt (-4) 1=(-4) by decide +kernel,show Rat.divInt 9 2=(9 / 2) by decide +kernel]] at hFl
 refine Ze (i:=16) rfl (by kernel_rfl) (fun K hK=>?_);(try rw [if_pos (by kernel_rfl)]);go_simp;refine (Zi8 A8 (some ⟨gl,0,none⟩) 2 c8 2 _ Vl (y1.out) hFl).mono ?_;rintro e x5 ⟨rfl,h4⟩;replace c0:=Zb h4 c0;replace c1:=Zb h4 c1;replace c2':=Zb h4 c2';replace c3':=Zb h4 c3';replace y1:=Za (y1.out.below h4);replace y2:=Za (y2.out.below h4);replace l3:=Za (l3.out.below h4);replace l4:=Za (l4.out.below h4);replace q10:=Za (Zc h4 q10.out);replace hB11:=Za (hB11.out.trans (Below.mono h4 hB11.out.size));clear h4;refine hK.out _ _ (fun _=>⟨c0,c1,c2',c3'⟩) ?_;clear hK K
 try simp only [Act.put,Zgj,Zfx,Zge]
 clear hFl ql hu hv;refine Zi4 1 [17] rfl (by kernel_rfl) ⟨c0,c1,c2',c3'⟩ ?_
 (refine tk1 (v:=?_) rfl (Or.inl ⟨by kernel_rfl,?_⟩) ?_;rotate_left;(· intro W2 hSw;(try dsimp only at hSw);go_simp;try with_reducible rfl);try simp only [Act.put,Zgj,Zfx,Zge,putG_a,putG_s,putG_z])
 refine tk0 ?_;refine Zfy 1 [18] rfl (by kernel_rfl) ⟨c0,c1,c2',c3'⟩ ?_
 (refine tk1 (v:=?_) rfl (Or.inl ⟨by kernel_rfl,?_⟩) ?_;rotate_left;(· intro W2 _;go_simp;try with_reducible rfl);try simp only [Act.put,Zgj,Zfx,Zge,putG_a,putG_s,putG_z])
 refine tk0 ?_;refine Zk (by kernel_rfl) ?_ _;refine OnlyNormal.normal ?_;clear c0 c1 c2' c3';go_wp2_with fail;obtain ⟨c0,c1,c2',c3',-⟩:=q10.out.four;refine Zaj [] (fun wx=>wx.cell? ⟨g10,0,none⟩=some (.bool (dfQ (1 / 6)).na)/\wx.cell? ⟨g10,1,none⟩=some (.slice sA sk sc)/\wx.cell? ⟨g10,2,none⟩=some (.bool (dfQ (1 / 6)).nb)/\wx.cell? ⟨g10,3,none⟩=some (.slice sB sj sd)) hmx ⟨c0,c1,c2',c3'⟩ (fun _=>?_);refine Zi4 7 [0,1,2,3,4,5,6] rfl (by kernel_rfl) ⟨c0,c1,c2',c3'⟩ ?_
 iterate 7 (refine tk1 (v:=?_) rfl (Or.inl ⟨by kernel_rfl,?_⟩) ?_;rotate_left;(· intro W2 hSw;(try dsimp only at hSw);go_simp;try with_reducible rfl);try simp only [Act.put,Zgj,Zfx,Zge,putG_a,putG_s,putG_z])
 refine tk0 ?_;refine Ze (i:=7) rfl (by kernel_rfl) (fun K hK=>?_);(try rw [if_pos (by kernel_rfl)]);go_simp;refine (Zds 1 6 x5.drew (by decide) (by decide) (by decide) (by decide)).mono ?_;rintro e x6 ⟨h1,un,uA,uk,uc,um,uB,uj,ud,rfl,hu⟩;replace h1:=Zo h1;replace c0:=Zb h1 c0;replace c1:=Zb h1 c1;replace c2':=Zb h1 c2';replace c3':=Zb h1 c3';replace y2:=Za (y2.out.below h1);replace l3:=Za (l3.out.below h1);replace l4:=Za (l4.out.below h1);replace hB11:=Za (hB11.out.trans (Below.mono h1 hB11.out.size));clear h1;refine hK.out _ _ (fun _=>⟨c0,c1,c2',c3'⟩) ?_;clear hK K
 try simp only [Act.put,Zgj,Zfx,Zge]
 refine Ze (i:=8) rfl (by kernel_rfl) (fun K hK=>?_);(try rw [if_pos (by kernel_rfl)]);go_simp;refine (Zds 1 2 x6 (by decide) (by decide) (by decide) (by decide)).mono ?_;rintro e x7 ⟨h2,vn,vA,vk,vc,vm,vB,vj,vd,rfl,hv⟩;replace hu:=hu.below h2;replace c0:=Zb h2 c0;replace c1:=Zb h2 c1;replace c2':=Zb h2 c2';replace c3':=Zb h2 c3';replace y2:=Za (y2.out.below h2);replace l3:=Za (l3.out.below h2);replace l4:=Za (l4.out.below h2);replace hB11:=Za (hB11.out.trans (Below.mono h2 hB11.out.size));clear h2;refine hK.out _ _ (fun _=>⟨c0,c1,c2',c3'⟩) ?_;clear hK K
 try simp only [Act.put,Zgj,Zfx,Zge]
 obtain ⟨gl,hgl⟩:∃ g,x7.heap.size=g:=⟨_,rfl⟩;obtain ⟨Vl,hVl,ql,hbl⟩:=Za2 (w:=x7) 45 #[.bool un,.slice uA uk uc,.bool um,.slice uB uj ud,.bool vn,.slice vA vk vc,.bool vm,.slice vB vj vd];rw [hgl] at ql;have hFl:=(FL.two ql (hu.below hbl) (hv.below hbl)).xl;refine Ze (i:=9) rfl (by kernel_rfl) (fun K hK=>?_);(try rw [if_pos (by kernel_rfl)]);go_simp;(try rw [hgl]);(try rw [hVl]);clear hVl;replace c0:=Zb hbl c0;replace c1:=Zb hbl c1;replace c2':=Zb hbl c2';replace c3':=Zb hbl c3';replace y2:=Za (y2.out.below hbl);replace l3:=Za (l3.out.below hbl);replace l4:=Za (l4.out.below hbl);replace hB11:=Za (hB11.out.trans (Below.mono hbl hB11.out.size));clear hbl;refine hK.out _ _ (fun _=>⟨c0,c1,c2',c3'⟩) ?_;clear hK K
 try simp only [Act.put,Zgj,Zfx,Zge]
 rw [show [Rat.divInt 1 6,Rat.divInt 1 2].map dfQ=[dfQ (1 / 6),dfQ (1 / 2)] by
  simp only [List.map_cons,List.map_nil]
  rw [show Rat.divInt 1 6=(1 / 6) by decide +kernel,show Rat.divInt 1 2=(1 / 2) by decide +kernel]] at hFl
 refine Ze (i:=10) rfl (by kernel_rfl) (fun K hK=>?_);(try rw [if_pos (by kernel_rfl)]);go_simp;refine (Zi8 A9 (some ⟨gl,0,none⟩) 2 c9 2 _ Vl (y2.out) hFl).mono ?_;rintro e x8 ⟨rfl,h4⟩;replace c0:=Zb h4 c0;replace c1:=Zb h4 c1;replace c2':=Zb h4 c2';replace c3':=Zb h4 c3';replace y2:=Za (y2.out.below h4);replace l3:=Za (l3.out.below h4);replace l4:=Za (l4.out.below h4);replace hB11:=Za (hB11.out.trans (Below.mono h4 hB11.out.size));clear h4;refine hK.out _ _ (fun _=>⟨c0,c1,c2',c3'⟩) ?_;clear hK K
 try simp only [Act.put,Zgj,Zfx,Zge]
 clear hFl ql hu hv;refine Zi4 3 [11,12,13] rfl (by kernel_rfl) ⟨c0,c1,c2',c3'⟩ ?_
 iterate 3 (refine tk1 (v:=?_) rfl (Or.inl ⟨by kernel_rfl,?_⟩) ?_;rotate_left;(· intro W2 hSw;(try dsimp only at hSw);go_simp;try with_reducible rfl);try simp only [Act.put,Zgj,Zfx,Zge,putG_a,putG_s,putG_z])
 refine tk0 ?_;refine Ze (i:=14) rfl (by kernel_rfl) (fun K hK=>?_);(try rw [if_pos (by kernel_rfl)]);go_simp;refine (Zds 1 6 x8 (by decide) (by decide) (by decide) (by decide)).mono ?_;rintro e x9 ⟨hx1,pn,pA,pk,pc,pm,pB,pj,pd,rfl,hp⟩;rw [show Rat.divInt 1 6=1 / 6 by decide +kernel] at hp;obtain ⟨e1,e2,m1,m2⟩:=hp.df;replace l3:=Za (l3.out.below hx1);replace l4:=Za (l4.out.below hx1);replace hB11:=Za (hB11.out.trans (Below.mono hx1 hB11.out.size));replace c0:=Zb hx1 c0;replace c1:=Zb hx1 c1;replace c2':=Zb hx1 c2';replace c3':=Zb hx1 c3';refine hK.out _ _ (fun _=>⟨c0,c1,c2',c3'⟩) ?_;clear hK K
 try simp only [Act.put,Zgj,Zfx,Zge]
 subst e1 e2;refine Ze (i:=15) rfl (by kernel_rfl) (fun K hK=>?_);(try rw [if_pos (by kernel_rfl)]);go_simp;refine (Zh7 (dfQ (1 / 6)).na (dfQ (1 / 6)).nb sA sB pA pB sk sc sj sd pk pc pj pd (dfQ (1 / 6)).la (dfQ (1 / 6)).lb x9 l3.out l4.out m1 m2).mono ?_;rintro e x10 ⟨rfl,hx2⟩;replace hB11:=Za (hB11.out.trans (Below.mono hx2 hB11.out.size));replace c0:=Zb hx2 c0;replace c1:=Zb hx2 c1;replace c2':=Zb hx2 c2';replace c3':=Zb hx2 c3';refine hK.out _ _ (fun _=>⟨c0,c1,c2',c3'⟩) ?_;clear hK K
 try simp only [Act.put,Zgj,Zfx,Zge]
 refine Zi4 1 [16] rfl (by kernel_rfl) ⟨c0,c1,c2',c3'⟩ ?_
 (refine tk1 (v:=?_) rfl (Or.inl ⟨by kernel_rfl,?_⟩) ?_;rotate_left;(· intro W2 hSw;(try dsimp only at hSw);go_simp;try with_reducible rfl);try simp only [Act.put,Zgj,Zfx,Zge,putG_a,putG_s,putG_z])
 refine tk0 ?_;refine Zfy 1 [17] rfl (by kernel_rfl) ⟨c0,c1,c2',c3'⟩ ?_
 (refine tk1 (v:=?_) rfl (Or.inl ⟨by kernel_rfl,?_⟩) ?_;rotate_left;(· intro W2 _;go_simp;try with_reducible rfl);try simp only [Act.put,Zgj,Zfx,Zge,putG_a,putG_s,putG_z])
 refine tk0 ?_;refine Zk (by kernel_rfl) ?_ _;refine OnlyNormal.normal ?_;clear c0 c1 c2' c3';go_wp2_with fail;go_ret;exact ⟨rfl,hB11.out⟩
end Go.Proofs.YtigdclhagmnopaaGreat
