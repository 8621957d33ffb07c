/- The reference of layer 1: DivMod. Reference of frac: -/
import Derived.BigQuiet
import Derived.Deep.QuietTactic
import Derived.Deep.CutBlock
import Derived.Deep.DeepCutAuto
import Derived.Defers
import Derived.Recover
import Derived.Test.YthappeninglakaaGreatZd05
set_option maxRecDepth 100000
set_option maxHeartbeats 2000000
set_option linter.unusedSimpArgs false
set_option linter.unusedVariables false
namespace Go.Proofs.YthappeninglakaaGreat
open Go.RowKit
open World renaming size_alloc→Qa,cell?_setCell_other→Qf
open And renaming intro→Qb
open Blk renaming new→Qc
open Nat renaming le_refl→Qd,lt_of_le_of_lt→Qi,mod_lt→Qj,div_le_self→Qm,lt_trans→Qn,eq_zero_or_pos→Qo,gcd→Qp
open Below renaming refl→Qe
open Rat renaming divInt→Qg
open _root_.Array renaming replicate→Qh
open Int renaming fdiv→Qk,fmod→Ql
open Act renaming put→Qq
attribute [local go_sem] Zh
theorem Zoy(na nb:Bool)(A B:Option Addr)(n c m d:Nat)(za zb:Int)(w:World)(ha:Wd w na A n c za)(hb:Wd w nb B m d zb)(h0:zb≠0)(hy:za.natAbs%zb.natAbs=0) :
    Calls Tryz.prog 76 #[.agg #[.bool na,.slice A n c],.agg #[.bool nb,.slice B m d]] w (Zjl w za zb):=by
 have d6:=ha.lim;have a6:=hb.lim;have hn:=ha.2.1;have hm:=hb.2.1;have h7:=a6.2.2.1;have i5:=a6.2.1;unfold maxLen at h7;have c8:∀ X Y Z V:Obj,Below w.heap.size w ((((w.alloc X).alloc Y).alloc Z).alloc V):=λX Y Z V=>((((Qe w.heap.size w).alloc (Qd _) _).alloc (by simp) _).alloc (by simp;omega) _).alloc (by simp;omega) _;have c8:=Za c8;have b7:Hid ((okW na (digits za.natAbs) && okW nb (digits zb.natAbs))=true):=by unfold Hid;rw[ha.ok,hb.ok];rfl
 have c6:=ha.sgEq;have b9:=hb.sgEq;rw[Zi]at c6 b9;have hU:=ha.small;have hV:=hb.small;clear ha hb;have b0:0<zb.natAbs:=by omega
 have i8:0<m:=by rw[<- a6.len];exact length_digits_pos.2 b0
 have i1:((m:Int) == 0)=false:=by simp;omega
 obtain⟨c7,c1⟩:=Zhu na nb za.natAbs zb.natAbs b0 (Or.inl hy);rw[c6,b9]at c7 c1;clear c6 b9 h0;generalize za.natAbs=U at *;generalize zb.natAbs=V at *;have hxs:U/V<pw 4096:=Qi (Qm _ _) hU;have g8:U%V<pw 4096:=Qn (Qj _ b0) hV;have hfin:Hid (∀ (e:Ending) (w':World),(Below w.heap.size w w'/\∃ nq Aq kq cq nr Ar kr cr,e=.returned (.tuple #[.agg #[.bool nq,.slice Aq kq cq],.agg #[.bool nr,.slice Ar kr cr],.int .i64 0])/\Wd w' nq Aq kq cq (Qk za zb)/\Wd w' nr Ar kr cr (Ql za zb))->Zjl w za zb e w'):=λ_ _ h=>h;generalize Qk za zb=ZQ at *;generalize Ql za zb=ZR at *;have O:sg na (U%V)=ZR:=by rw[c1,hy];simp[sg]
 have T:sg (na != nb) (U/V)=ZQ:=c7.symm;replace O:=Za O;replace T:=Za T;replace hy:=Za hy;clear c7 c1;go_enter Tryz.func76,Tryz.ntmps76;go_wp2_with fail;refine(Ze5 ((((d6.alloc _).alloc _).alloc _).alloc _) ((((a6.alloc _).alloc _).alloc _).alloc _) b7.out).mono ?_;rintro e w1 ⟨rfl,a2⟩;obtain⟨a3,f3⟩:=Zcp a2;have i6:w.heap.size+1+1+1<w1.heap.size:=by have:=a2.size;simp at this;omega
 have a8:Below w.heap.size w w1:=(c8.out _ _ _ _).trans (a2.mono (by simp;omega));have g0:w1.cell? ⟨w.heap.size,0,none⟩=some (.bool na):=by simp[a3,go_sem]
 have g1:w1.cell? ⟨w.heap.size,1,none⟩=some (.slice A n c):=by simp[a3,go_sem]
 have g2:w1.cell? ⟨w.heap.size+1,0,none⟩=some (.bool nb):=by simp[a3,go_sem]
 have g3:w1.cell? ⟨w.heap.size+1,1,none⟩=some (.slice B m d):=by simp[a3,go_sem]
 have bq:Hid (Blk w1 (w.heap.size+1+1) 39 #[.bool false,.slice none 0 0]):=by
  refine Zd a2 (Blk.alloc ?_ _);have:=Qc ((w.alloc (.cells #[.bool na,.slice A n c] 39)).alloc (.cells #[.bool nb,.slice B m d] 39)) 39 #[.bool false,.slice none 0 0];simp only[Qa]at this;exact this
 have br:Hid (Blk w1 (w.heap.size+1+1+1) 39 #[.bool false,.slice none 0 0]):=by
  refine Zd a2 ?_;have:=Qc (((w.alloc (.cells #[.bool na,.slice A n c] 39)).alloc (.cells #[.bool nb,.slice B m d] 39)).alloc (.cells #[.bool false,.slice none 0 0] 39)) 39 #[.bool false,.slice none 0 0];simp only[Qa]at this;exact this
 have d9:=d6.below a8;have d8:=a6.below a8;clear a3 f3;go_wp2_with fail;refine(Zi6 _ _ _ _ _ _ U V _ d9 d8 (by omega) b0).mono ?_;rintro e w2 ⟨A2,n2,c2,B2,m2,d2,rfl,e0,a5,C⟩;have d5:Below w.heap.size w w2:=a8.trans (C.mono a8.size);have e1:=a5.2.2.1;have i2:=a5.2.1;unfold maxLen at e1;have i7:n2<=4096:=by rw[<- e0.len];exact(Zs _ _).2 hxs
 have i0:m2<=4096:=by rw[<- a5.len];exact(Zs _ _).2 g8
 have f0:=Zb C g0;have f4:=Zb C g1;have h3:=Zb C g2;have h5:=Zb C g3;have e7:Hid (Blk _ _ _ _):=Zd C bq.out;have g4:Hid (Blk _ _ _ _):=Zd C br.out
 have h9:m2=0:=by
  rcases Qo m2 with h|h;exact h;rw[<- a5.len]at h;have:=length_digits_pos.1 h;have:=hy.out;omega
 subst h9;go_wp2_with fail;refine(Zbm _ _ _ _ _ _ e0 (by omega)).mono ?_;rintro e w3 ⟨u,f,A3,n3,c3,b6,rfl,c0⟩;have c9:Below w.heap.size w w3:=d5.trans (u.mono d5.size);have e2:=Zb u f0;have f7:=Zb u f4;have d7:=Zb u h3;have e3:=Zb u h5;have e5:Hid (Blk _ _ _ _):=Zd u e7.out;have f9:Hid (Blk _ _ _ _):=Zd u g4.out;change ResP w3 (sg (na != nb) _) f A3 n3 c3 b6 at c0;rw[Zi,T.out]at c0;rcases c0 with ⟨-,rfl,h4⟩|⟨a0,-⟩
 case inr =>
  exfalso;have h1:=T.out;rw[<- h1,Z4]at a0;omega
 have a7:Below w3.heap.size w3 (w3.alloc (.cells #[.bool f,.slice A3 n3 c3] 39)):=(Qe _ _).alloc (Qd _) _;have bp:=Qc w3 39 #[.bool f,.slice A3 n3 c3];have j1:w.heap.size+1+1+1<w3.heap.size:=by have:=C.size;have:=u.size;omega
 have e4:=Zb a7 e2;have e8:=Zb a7 d7;go_wp2_with fail;refine(Zbm _ _ _ _ _ _ ((a5.below u).below a7) (by omega)).mono ?_;rintro e w4 ⟨a1,I,A4,n4,c4,h2,rfl,d0⟩;have y:Below w3.heap.size w3 w4:=a7.trans (a1.mono (by simp));have g9:=Za (Zd a1 bp);have i3:w3.heap.size<w4.heap.size:=by have:=a1.size;simp at this;omega
 have d4:Below w.heap.size w w4:=c9.trans (y.mono c9.size);have e6:=Zb y e2;have h8:=Zb y f7;have g6:=Zb y d7;have f5:=Zb y e3;have g7:Hid (Blk _ _ _ _):=Zd y e5.out;have f8:Hid (Blk _ _ _ _):=Zd y f9.out;rw[Zi,O.out]at d0;rcases d0 with ⟨-,rfl,e9⟩|⟨a0,-⟩
 case inr =>
  exfalso;have h1:=O.out;rw[<- h1,Z4]at a0;omega
 have g5:=h4.below y;have o:Below w4.heap.size w4 (w4.alloc (.cells #[.bool I,.slice A4 n4 c4] 39)):=(Qe _ _).alloc (Qd _) _;have bs:=Qc w4 39 #[.bool I,.slice A4 n4 c4];have a9:=Za (Zd o g9.out);have h6:=d4.trans (o.mono d4.size);have p0:=a9.out.cell 0;have p1:=a9.out.cell 1;have p2:=a9.out.frozen 0;have p3:=a9.out.frozen 1;simp at p0 p1;replace bs:=Za bs;clear e4 e8;have i4:=Zb o e6;have j0:=Zb o h8;have i9:=Zb o g6;have j2:=Zb o f5;have J:Hid (Blk _ _ _ _):=Zd o g7.out;have a4:Hid (Blk _ _ _ _):=Zd o f8.out;have c5:=g5.below o;have b8:=e9.below o;go_wp2_with fail;generalize hw5:w4.alloc _=w5 at *;have d3:w5.heap.size=w4.heap.size+1:=by rw[<- hw5];simp
 replace d3:=Za d3;clear hw5;have s0:=bs.out.cell 0;have s1:=bs.out.cell 1;have s2:=bs.out.frozen 0;have s3:=bs.out.frozen 1;simp at s0 s1;have q1:=J.out.cell 0;have q2:=J.out.cell 1;have q3:=J.out.frozen 0;have q4:=J.out.frozen 1;have r1:=a4.out.cell 0;have r2:=a4.out.cell 1;have r3:=a4.out.frozen 0;have r4:=a4.out.frozen 1;simp at q1 q2 r1 r2
 go_region
 go_wp2
 generalize hw9:((((w5.setCell ⟨w.heap.size+1+1,0,none⟩ (.bool f)).setCell ⟨w.heap.size+1+1,1,none⟩ (.slice A3 n3 c3)).setCell ⟨w.heap.size+1+1+1,0,none⟩ (.bool I)).setCell ⟨w.heap.size+1+1+1,1,none⟩ (.slice A4 n4 c4)).drew=w9;have b1:=(J.out.set_ 0 (.bool f)).set_ 1 (.slice A3 n3 c3);have b2:=(a4.out.far (p:=⟨w.heap.size+1+1,0,none⟩) (by simp <;> omega) (.bool f)).far (p:=⟨w.heap.size+1+1,1,none⟩) (by simp <;> omega) (.slice A3 n3 c3);have b3:Blk w9 (w.heap.size+1+1) 39 #[.bool f,.slice A3 n3 c3]:=by rw[<- hw9];exact(b1.far (by simp <;> omega) _).far (by simp <;> omega) _
 have b4:Blk w9 (w.heap.size+1+1+1) 39 #[.bool I,.slice A4 n4 c4]:=by rw[<- hw9];exact(b2.set_ 0 _).set_ 1 _
 have f6:Below w.heap.size w w9:=by rw[<- hw9];exact Zf ((((h6.setCell (p:=⟨w.heap.size+1+1,0,none⟩) (by simp <;> omega) _).setCell (p:=⟨w.heap.size+1+1,1,none⟩) (by simp <;> omega) _).setCell (p:=⟨w.heap.size+1+1+1,0,none⟩) (by simp <;> omega) _).setCell (p:=⟨w.heap.size+1+1+1,1,none⟩) (by simp <;> omega) _) 1
 have b5:∀ (A:Option Addr) (n c:Nat) (l:List Nat),Lim w5 A n c l->Lim w9 A n c l:=λA n c l h=>by
  rw[<- hw9];exact Lim.set_box (Lim.set_box (Lim.set_box (Lim.set_box h J.out (NoLimb.box _ _ _ _) 0 _) (J.out.set_ 0 _) (NoLimb.box _ _ _ _) 1 _) b2 (NoLimb.box _ _ _ _) 0 _) (b2.set_ 0 _) (NoLimb.box _ _ _ _) 1 _
 have t1:=b3.cell 0;have t2:=b3.cell 1;have t3:=b4.cell 0;have t4:=b4.cell 1;simp at t1 t2 t3 t4;refine bodyPost_ret (v:=.tuple #[.agg #[.bool f,.slice A3 n3 c3],.agg #[.bool I,.slice A4 n4 c4],.int .i64 0]) (by simp[results,Tryz.results76,go_sem,t1,t2,t3,t4]) rfl ?_;exact hfin.out _ _ ⟨f6,_,_,_,_,_,_,_,_,rfl,⟨c5.1,c5.2.1,b5 _ _ _ _ c5.2.2⟩,⟨b8.1,b8.2.1,b5 _ _ _ _ b8.2.2⟩⟩
theorem Zom(na nb:Bool)(A B:Option Addr)(n c m d:Nat)(za zb:Int)(w:World)(ha:Wd w na A n c za)(hb:Wd w nb B m d zb)(h0:zb≠0)(hy:0<za.natAbs%zb.natAbs)(hs:na=nb) :
    Calls Tryz.prog 76 #[.agg #[.bool na,.slice A n c],.agg #[.bool nb,.slice B m d]] w (Zjl w za zb):=by
 have d5:=ha.lim;have a6:=hb.lim;have hn:=ha.2.1;have hm:=hb.2.1;have h8:=a6.2.2.1;have i5:=a6.2.1;unfold maxLen at h8;have c6:∀ X Y Z V:Obj,Below w.heap.size w ((((w.alloc X).alloc Y).alloc Z).alloc V):=λX Y Z V=>((((Qe w.heap.size w).alloc (Qd _) _).alloc (by simp) _).alloc (by simp;omega) _).alloc (by simp;omega) _;have c6:=Za c6;have b6:Hid ((okW na (digits za.natAbs) && okW nb (digits zb.natAbs))=true):=by unfold Hid;rw[ha.ok,hb.ok];rfl
 have c1:=ha.sgEq;have b8:=hb.sgEq;rw[Zi]at c1 b8;have hU:=ha.small;have hV:=hb.small;clear ha hb;have b0:0<zb.natAbs:=by omega
 have i8:0<m:=by rw[<- a6.len];exact length_digits_pos.2 b0
 have i1:((m:Int) == 0)=false:=by simp;omega
 obtain⟨c5,b9⟩:=Zhu na nb za.natAbs zb.natAbs b0 (Or.inr hs);rw[c1,b8]at c5 b9;clear c1 b8 h0;generalize za.natAbs=U at *;generalize zb.natAbs=V at *;have hxs:U/V<pw 4096:=Qi (Qm _ _) hU;have g8:U%V<pw 4096:=Qn (Qj _ b0) hV;have hfin:Hid (∀ (e:Ending) (w':World),(Below w.heap.size w w'/\∃ nq Aq kq cq nr Ar kr cr,e=.returned (.tuple #[.agg #[.bool nq,.slice Aq kq cq],.agg #[.bool nr,.slice Ar kr cr],.int .i64 0])/\Wd w' nq Aq kq cq (Qk za zb)/\Wd w' nr Ar kr cr (Ql za zb))->Zjl w za zb e w'):=λ_ _ h=>h;generalize Qk za zb=ZQ at *;generalize Ql za zb=ZR at *;subst hs;have h3:(na != na)=false:=by simp
 have O:sg na (U%V)=ZR:=b9.symm;have T:sg false (U/V)=ZQ:=by rw[c5,h3]
 replace O:=Za O;replace T:=Za T;clear c5 b9;go_enter Tryz.func76,Tryz.ntmps76;go_wp2_with fail;refine(Ze5 ((((d5.alloc _).alloc _).alloc _).alloc _) ((((a6.alloc _).alloc _).alloc _).alloc _) b6.out).mono ?_;rintro e w1 ⟨rfl,a2⟩;obtain⟨a3,f3⟩:=Zcp a2;have i6:w.heap.size+1+1+1<w1.heap.size:=by have:=a2.size;simp at this;omega
 have a8:Below w.heap.size w w1:=(c6.out _ _ _ _).trans (a2.mono (by simp;omega));have g0:w1.cell? ⟨w.heap.size,0,none⟩=some (.bool na):=by simp[a3,go_sem]
 have g1:w1.cell? ⟨w.heap.size,1,none⟩=some (.slice A n c):=by simp[a3,go_sem]
 have g2:w1.cell? ⟨w.heap.size+1,0,none⟩=some (.bool na):=by simp[a3,go_sem]
 have g3:w1.cell? ⟨w.heap.size+1,1,none⟩=some (.slice B m d):=by simp[a3,go_sem]
 have bq:Hid (Blk w1 (w.heap.size+1+1) 39 #[.bool false,.slice none 0 0]):=by
  refine Zd a2 (Blk.alloc ?_ _);have:=Qc ((w.alloc (.cells #[.bool na,.slice A n c] 39)).alloc (.cells #[.bool na,.slice B m d] 39)) 39 #[.bool false,.slice none 0 0];simp only[Qa]at this;exact this
 have br:Hid (Blk w1 (w.heap.size+1+1+1) 39 #[.bool false,.slice none 0 0]):=by
  refine Zd a2 ?_;have:=Qc (((w.alloc (.cells #[.bool na,.slice A n c] 39)).alloc (.cells #[.bool na,.slice B m d] 39)).alloc (.cells #[.bool false,.slice none 0 0] 39)) 39 #[.bool false,.slice none 0 0];simp only[Qa]at this;exact this
 have d8:=d5.below a8;have d7:=a6.below a8;clear a3 f3;go_wp2_with fail;refine(Zi6 _ _ _ _ _ _ U V _ d8 d7 (by omega) b0).mono ?_;rintro e w2 ⟨A2,n2,c2,B2,m2,d2,rfl,d9,a5,C⟩;have d3:Below w.heap.size w w2:=a8.trans (C.mono a8.size);have e0:=a5.2.2.1;have i2:=a5.2.1;unfold maxLen at e0;have i7:n2<=4096:=by rw[<- d9.len];exact(Zs _ _).2 hxs
 have i0:m2<=4096:=by rw[<- a5.len];exact(Zs _ _).2 g8
 have f0:=Zb C g0;have f4:=Zb C g1;have h4:=Zb C g2;have h6:=Zb C g3;have e7:Hid (Blk _ _ _ _):=Zd C bq.out;have g4:Hid (Blk _ _ _ _):=Zd C br.out;have j3:0<m2:=by rw[<- a5.len];exact length_digits_pos.2 hy
 go_wp2_with fail;refine(Zbm _ _ _ _ _ _ d9 (by omega)).mono ?_;rintro e w3 ⟨u,f,A3,n3,c3,e2,rfl,d4⟩;have c7:Below w.heap.size w w3:=d3.trans (u.mono d3.size);have e1:=Zb u f0;have f7:=Zb u f4;have d6:=Zb u h4;have e3:=Zb u h6;have e5:Hid (Blk _ _ _ _):=Zd u e7.out;have f9:Hid (Blk _ _ _ _):=Zd u g4.out;rw[Zi,T.out]at d4;rcases d4 with ⟨-,rfl,h5⟩|⟨a0,-⟩
 case inr =>
  exfalso;have h1:=T.out;rw[<- h1,Z4]at a0;omega
 have a7:Below w3.heap.size w3 (w3.alloc (.cells #[.bool f,.slice A3 n3 c3] 39)):=(Qe _ _).alloc (Qd _) _;have bp:=Qc w3 39 #[.bool f,.slice A3 n3 c3];have j1:w.heap.size+1+1+1<w3.heap.size:=by have:=C.size;have:=u.size;omega
 have e4:=Zb a7 e1;have e8:=Zb a7 d6;go_wp2_with fail;refine(Zbm _ _ _ _ _ _ ((a5.below u).below a7) (by omega)).mono ?_;rintro e w4 ⟨a1,I,A4,n4,c4,h2,rfl,c8⟩;have y:Below w3.heap.size w3 w4:=a7.trans (a1.mono (by simp));have g9:=Za (Zd a1 bp);have i3:w3.heap.size<w4.heap.size:=by have:=a1.size;simp at this;omega
 have d0:Below w.heap.size w w4:=c7.trans (y.mono c7.size);have e6:=Zb y e1;have h9:=Zb y f7;have g6:=Zb y d6;have f5:=Zb y e3;have g7:Hid (Blk _ _ _ _):=Zd y e5.out;have f8:Hid (Blk _ _ _ _):=Zd y f9.out;rw[Zi,O.out]at c8;rcases c8 with ⟨-,rfl,e9⟩|⟨a0,-⟩
 case inr =>
  exfalso;have h1:=O.out;rw[<- h1,Z4]at a0;omega
 have g5:=h5.below y;have o:Below w4.heap.size w4 (w4.alloc (.cells #[.bool I,.slice A4 n4 c4] 39)):=(Qe _ _).alloc (Qd _) _;have bs:=Qc w4 39 #[.bool I,.slice A4 n4 c4];have a9:=Za (Zd o g9.out);have h7:=d0.trans (o.mono d0.size);have p0:=a9.out.cell 0;have p1:=a9.out.cell 1;have p2:=a9.out.frozen 0;have p3:=a9.out.frozen 1;simp at p0 p1;replace bs:=Za bs;clear e4 e8;have i4:=Zb o e6;have j0:=Zb o h9;have i9:=Zb o g6;have j2:=Zb o f5;have J:Hid (Blk _ _ _ _):=Zd o g7.out;have a4:Hid (Blk _ _ _ _):=Zd o f8.out;have c0:=g5.below o;have b7:=e9.below o;go_wp2_with fail;generalize hw5:w4.alloc _=w5 at *;have c9:w5.heap.size=w4.heap.size+1:=by rw[<- hw5];simp
 replace c9:=Za c9;clear hw5;have s0:=bs.out.cell 0;have s1:=bs.out.cell 1;have s2:=bs.out.frozen 0;have s3:=bs.out.frozen 1;simp at s0 s1;have q1:=J.out.cell 0;have q2:=J.out.cell 1;have q3:=J.out.frozen 0;have q4:=J.out.frozen 1;have r1:=a4.out.cell 0;have r2:=a4.out.cell 1;have r3:=a4.out.frozen 0;have r4:=a4.out.frozen 1;simp at q1 q2 r1 r2
 go_region
 go_wp2
 generalize hw9:((((w5.setCell ⟨w.heap.size+1+1,0,none⟩ (.bool f)).setCell ⟨w.heap.size+1+1,1,none⟩ (.slice A3 n3 c3)).setCell ⟨w.heap.size+1+1+1,0,none⟩ (.bool I)).setCell ⟨w.heap.size+1+1+1,1,none⟩ (.slice A4 n4 c4)).drew=w9;have b1:=(J.out.set_ 0 (.bool f)).set_ 1 (.slice A3 n3 c3);have b2:=(a4.out.far (p:=⟨w.heap.size+1+1,0,none⟩) (by simp <;> omega) (.bool f)).far (p:=⟨w.heap.size+1+1,1,none⟩) (by simp <;> omega) (.slice A3 n3 c3);have b3:Blk w9 (w.heap.size+1+1) 39 #[.bool f,.slice A3 n3 c3]:=by rw[<- hw9];exact(b1.far (by simp <;> omega) _).far (by simp <;> omega) _
 have b4:Blk w9 (w.heap.size+1+1+1) 39 #[.bool I,.slice A4 n4 c4]:=by rw[<- hw9];exact(b2.set_ 0 _).set_ 1 _
 have f6:Below w.heap.size w w9:=by rw[<- hw9];exact Zf ((((h7.setCell (p:=⟨w.heap.size+1+1,0,none⟩) (by simp <;> omega) _).setCell (p:=⟨w.heap.size+1+1,1,none⟩) (by simp <;> omega) _).setCell (p:=⟨w.heap.size+1+1+1,0,none⟩) (by simp <;> omega) _).setCell (p:=⟨w.heap.size+1+1+1,1,none⟩) (by simp <;> omega) _) 1
 have b5:∀ (A:Option Addr) (n c:Nat) (l:List Nat),Lim w5 A n c l->Lim w9 A n c l:=λA n c l h=>by
  rw[<- hw9];exact Lim.set_box (Lim.set_box (Lim.set_box (Lim.set_box h J.out (NoLimb.box _ _ _ _) 0 _) (J.out.set_ 0 _) (NoLimb.box _ _ _ _) 1 _) b2 (NoLimb.box _ _ _ _) 0 _) (b2.set_ 0 _) (NoLimb.box _ _ _ _) 1 _
 have t1:=b3.cell 0;have t2:=b3.cell 1;have t3:=b4.cell 0;have t4:=b4.cell 1;simp at t1 t2 t3 t4;refine bodyPost_ret (v:=.tuple #[.agg #[.bool f,.slice A3 n3 c3],.agg #[.bool I,.slice A4 n4 c4],.int .i64 0]) (by simp[results,Tryz.results76,go_sem,t1,t2,t3,t4]) rfl ?_;exact hfin.out _ _ ⟨f6,_,_,_,_,_,_,_,_,rfl,⟨c0.1,c0.2.1,b5 _ _ _ _ c0.2.2⟩,⟨b7.1,b7.2.1,b5 _ _ _ _ b7.2.2⟩⟩
theorem Znd(na nb:Bool)(A B:Option Addr)(n c m d:Nat)(za zb:Int)(w:World)(ha:Wd w na A n c za)(hb:Wd w nb B m d zb)(h0:zb≠0)(hy:0<za.natAbs%zb.natAbs)(hs:na≠nb) :
    Calls Tryz.prog 76 #[.agg #[.bool na,.slice A n c],.agg #[.bool nb,.slice B m d]] w (Zjl w za zb):=by
 have h5:=ha.lim;have a8:=hb.lim;have hn:=ha.2.1;have hm:=hb.2.1;have o2:=a8.2.2.1;have p5:=a8.2.1;unfold maxLen at o2;have f5:∀ X Y Z V:Obj,Below w.heap.size w ((((w.alloc X).alloc Y).alloc Z).alloc V):=λX Y Z V=>((((Qe w.heap.size w).alloc (Qd _) _).alloc (by simp) _).alloc (by simp;omega) _).alloc (by simp;omega) _;have f5:=Za f5;have f0:Hid ((okW na (digits za.natAbs) && okW nb (digits zb.natAbs))=true):=by unfold Hid;rw[ha.ok,hb.ok];rfl
 have f3:=ha.sgEq;have a6:=hb.sgEq;rw[Zi]at f3 a6;have hU:=ha.small;have hV:=hb.small;clear ha hb;have a9:0<zb.natAbs:=by omega
 have p8:0<m:=by rw[<- a8.len];exact length_digits_pos.2 a9
 have o7:((m:Int) == 0)=false:=by simp;omega
 obtain⟨e3,d6⟩:=Zns na nb za.natAbs zb.natAbs a9 hy hs;rw[f3,a6]at e3 d6;clear f3 h0;replace a6:=Za a6;generalize za.natAbs=U at *;generalize zb.natAbs=V at *;have hxs:U/V<pw 4096:=Qi (Qm _ _) hU;have m7:U%V<pw 4096:=Qn (Qj _ a9) hV
 have i3:(sg (na != nb) (U/V+1)).natAbs<pw 4096:=by
  rw[Z4];have h1:=Nat.div_add_mod U V;have h2:=Qj U a9;rcases Nat.lt_or_ge 1 V with h|h
  ·have:U/V+U/V<=V*(U/V):=by rw[<- Nat.two_mul];exact Nat.mul_le_mul_right _ h
   omega
  omega
 have f7:(sg nb (V-U%V)).natAbs<pw 4096:=by rw[Z4];omega
 rw[<- e3]at i3;rw[<- d6]at f7;have hfin:Hid (∀ (e:Ending) (w':World),(Below w.heap.size w w'/\∃ nq Aq kq cq nr Ar kr cr,e=.returned (.tuple #[.agg #[.bool nq,.slice Aq kq cq],.agg #[.bool nr,.slice Ar kr cr],.int .i64 0])/\Wd w' nq Aq kq cq (Qk za zb)/\Wd w' nr Ar kr cr (Ql za zb))->Zjl w za zb e w'):=λ_ _ h=>h;generalize Qk za zb=ZQ at *;generalize Ql za zb=ZR at *;have c0:(na != nb)=true:=by simpa using hs
 have q7:(na == nb)=false:=by simpa using hs
 have k4:Hid (sg true (U/V)+-1=ZQ):=by unfold Hid;rw[e3,c0];simp only[sg,if_true];omega
 have k5:Hid (sg na (U%V)+zb=ZR):=by
  unfold Hid;rw[d6,<- a6.out];have:=Qj U a9;cases na <;> cases nb <;> simp[sg]at hs ⊢ <;> omega
 replace c0:=Za c0;clear e3 d6;go_enter Tryz.func76,Tryz.ntmps76;go_wp2_with fail;refine(Ze5 ((((h5.alloc _).alloc _).alloc _).alloc _) ((((a8.alloc _).alloc _).alloc _).alloc _) f0.out).mono ?_;rintro e w1 ⟨rfl,b6⟩;obtain⟨b7,k8⟩:=Zcp b6;have p6:w.heap.size+1+1+1<w1.heap.size:=by have:=b6.size;simp at this;omega
 have d7:Below w.heap.size w w1:=(f5.out _ _ _ _).trans (b6.mono (by simp;omega));have g0:w1.cell? ⟨w.heap.size,0,none⟩=some (.bool na):=by simp[b7,go_sem]
 have g1:w1.cell? ⟨w.heap.size,1,none⟩=some (.slice A n c):=by simp[b7,go_sem]
 have g2:w1.cell? ⟨w.heap.size+1,0,none⟩=some (.bool nb):=by simp[b7,go_sem]
 have g3:w1.cell? ⟨w.heap.size+1,1,none⟩=some (.slice B m d):=by simp[b7,go_sem]
 have bq:Hid (Blk w1 (w.heap.size+1+1) 39 #[.bool false,.slice none 0 0]):=by
  refine Zd b6 (Blk.alloc ?_ _);have:=Qc ((w.alloc (.cells #[.bool na,.slice A n c] 39)).alloc (.cells #[.bool nb,.slice B m d] 39)) 39 #[.bool false,.slice none 0 0];simp only[Qa]at this;exact this
 have br:Hid (Blk w1 (w.heap.size+1+1+1) 39 #[.bool false,.slice none 0 0]):=by
  refine Zd b6 ?_;have:=Qc (((w.alloc (.cells #[.bool na,.slice A n c] 39)).alloc (.cells #[.bool nb,.slice B m d] 39)).alloc (.cells #[.bool false,.slice none 0 0] 39)) 39 #[.bool false,.slice none 0 0];simp only[Qa]at this;exact this
 have i0:=h5.below d7;have h7:=a8.below d7;clear b7 k8;go_wp2_with fail;refine(Zi6 _ _ _ _ _ _ U V _ i0 h7 (by omega) a9).mono ?_;rintro e w2 ⟨A2,n2,c2,B2,m2,d2,rfl,i7,b8,a3⟩;have g8:Below w.heap.size w w2:=d7.trans (a3.mono d7.size);have i8:=b8.2.2.1;have o9:=b8.2.1;unfold maxLen at i8;have p7:n2<=4096:=by rw[<- i7.len];exact(Zs _ _).2 hxs
 have o6:m2<=4096:=by rw[<- b8.len];exact(Zs _ _).2 m7
 have k7:=Zb a3 g0;have k9:=Zb a3 g1;have n0:=Zb a3 g2;have o0:=Zb a3 g3;have k1:Hid (Blk _ _ _ _):=Zd a3 bq.out;have m0:Hid (Blk _ _ _ _):=Zd a3 br.out;have q8:0<m2:=by rw[<- b8.len];exact length_digits_pos.2 hy
 go_wp2_with fail;refine(Zbm _ _ _ _ _ _ i7 (by omega)).mono ?_;rintro e w3 ⟨O,e7,A3,n3,c3,j4,rfl,h3⟩;have f6:Below w.heap.size w w3:=g8.trans (O.mono g8.size);have j1:=Zb O k7;have l3:=Zb O k9;have h6:=Zb O n0;have j6:=Zb O o0;have j8:Hid (Blk _ _ _ _):=Zd O k1.out;have l9:Hid (Blk _ _ _ _):=Zd O m0.out;rw[Zi]at h3;rcases h3 with ⟨-,rfl,n8⟩|⟨a1,-⟩
 case inr =>
  exfalso;rw[Z4]at a1;omega
 have c8:Below w3.heap.size w3 (w3.alloc (.cells #[.bool e7,.slice A3 n3 c3] 39)):=(Qe _ _).alloc (Qd _) _;have bp:=Qc w3 39 #[.bool e7,.slice A3 n3 c3];have q6:w.heap.size+1+1+1<w3.heap.size:=by have:=a3.size;have:=O.size;omega
 have j7:=Zb c8 j1;have k2:=Zb c8 h6;go_wp2_with fail;refine(Zbm _ _ _ _ _ _ ((b8.below O).below c8) (by omega)).mono ?_;rintro e w4 ⟨b5,a5,A4,n4,c4,m9,rfl,f8⟩;have a0:Below w3.heap.size w3 w4:=c8.trans (b5.mono (by simp));have m8:=Za (Zd b5 bp);have p4:w3.heap.size<w4.heap.size:=by have:=b5.size;simp at this;omega
 have g4:Below w.heap.size w w4:=f6.trans (a0.mono f6.size);have k0:=Zb a0 j1;have o3:=Zb a0 l3;have m4:=Zb a0 h6;have l0:=Zb a0 j6;have m6:Hid (Blk _ _ _ _):=Zd a0 j8.out;have l7:Hid (Blk _ _ _ _):=Zd a0 l9.out;rw[Zi]at f8;rcases f8 with ⟨-,rfl,k3⟩|⟨a1,-⟩
 case inr =>
  exfalso;rw[Z4]at a1;omega
 have m1:=n8.below a0;have C:Below w4.heap.size w4 (w4.alloc (.cells #[.bool a5,.slice A4 n4 c4] 39)):=(Qe _ _).alloc (Qd _) _;have bs:=Qc w4 39 #[.bool a5,.slice A4 n4 c4];have b9:=Za (Zd C m8.out);have f4:=g4.trans (C.mono g4.size);have p0:=b9.out.cell 0;have p1:=b9.out.cell 1;have p2:=b9.out.frozen 0;have p3:=b9.out.frozen 1;simp at p0 p1;replace bs:=Za bs;clear j7 k2;have j3:=Zb C k0;have m3:=Zb C o3;have i6:=Zb C m4;have j2:=Zb C l0;have o1:Hid (Blk _ _ _ _):=Zd C m6.out;have l4:Hid (Blk _ _ _ _):=Zd C l7.out;have l8:=m1.below C;have j9:=k3.below C;go_wp2_with fail;generalize hw5:w4.alloc _=w5 at *;have f9:w5.heap.size=w4.heap.size+1:=by rw[<- hw5];simp
 replace f9:=Za f9;clear hw5;have s0:=bs.out.cell 0;have s1:=bs.out.cell 1;have s2:=bs.out.frozen 0;have s3:=bs.out.frozen 1;simp at s0 s1
 go_region_with (first
  | (go_at_call 32;refine(Zc6 (-1) _ (by omega) (by omega)).mono ?_;rintro e w6 ⟨k6,o8,A6,n6,c6,rfl,e4⟩;have y:=Zr k6;have u0:=Zb y p0;have u1:=Zb y p1;have u2:=Zk y p0 p2;have u3:=Zk y p1 p3;have d4:=l8.below y)
  | (go_at_call 124;refine(Ze8 _ _ _ _ _ _ _ _ _ _ _ d4.lim e4.lim d4.2.1 e4.2.1).mono ?_;rintro e w7 ⟨c5,f,A7,n7,c7,m5,rfl,i5⟩;have v0:=Zb c5 u0;have v1:=Zb c5 u1;have v2:=Zk c5 u0 u2;have v3:=Zk c5 u1 u3))
 all_goals
  have e1:=d4.sgEq;have e2:=e4.sgEq;rw[Zi]at e1 e2;rw[e1,e2,k4.out]at i5;rcases i5 with ⟨-,rfl,d5⟩|⟨a1,-⟩
  case inr=>exact absurd i3 (by omega)
  clear e1 e2 d4 e4;have o:Below w5.heap.size w5 w7:=y.trans (c5.mono y.size);have g6:Hid (Blk _ _ _ _):=Zd o o1.out;have g5:Hid (Blk _ _ _ _):=Zd o l4.out;have d0:Hid (Blk _ _ _ _):=Zd o b9.out;have g7:Hid (Blk _ _ _ _):=Zd o bs.out;have h8:=Zb o i6;have i4:=Zb o j2;have e0:=j9.below o;have h9:=((a8.below f4)).below o;have o5:=f4.trans (o.mono f4.size);clear u0 u1 u2 u3 s0 s1 s2 s3 p0 p1 p2 p3 j3 m3 i6 j2
  go_upto_region 10 with fail
  generalize hw8:(w7.setCell ⟨w3.heap.size,0,none⟩ (.bool f)).setCell ⟨w3.heap.size,1,none⟩ (.slice A7 n7 c7)=w8;have l6:Hid (Blk w8 (w.heap.size+1+1) 39 #[.bool false,.slice none 0 0]):=by rw[<- hw8];exact(g6.out.far (by simp <;> omega) _).far (by simp <;> omega) _
  have j5:Hid (Blk w8 (w.heap.size+1+1+1) 39 #[.bool false,.slice none 0 0]):=by rw[<- hw8];exact(g5.out.far (by simp <;> omega) _).far (by simp <;> omega) _
  have o4:Hid (Blk w8 w3.heap.size 39 #[.bool f,.slice A7 n7 c7]):=by rw[<- hw8];exact(d0.out.set_ 0 _).set_ 1 _
  have e5:Hid (Blk w8 w4.heap.size 39 #[.bool a5,.slice A4 n4 c4]):=by rw[<- hw8];exact(g7.out.far (by simp <;> omega) _).far (by simp <;> omega) _
  have q0:w8.cell? ⟨w.heap.size+1,0,none⟩=some (.bool nb):=by rw[<- hw8];exact(Qf _ _ _ _ (by simp <;> omega)).trans ((Qf _ _ _ _ (by simp <;> omega)).trans h8)
  have q5:w8.cell? ⟨w.heap.size+1,1,none⟩=some (.slice B m d):=by rw[<- hw8];exact(Qf _ _ _ _ (by simp <;> omega)).trans ((Qf _ _ _ _ (by simp <;> omega)).trans i4)
  have J:∀ (A:Option Addr) (n c:Nat) (l:List Nat),Lim w7 A n c l->Lim w8 A n c l:=λA n c l h=>by
   rw[<- hw8];exact Lim.set_box (Lim.set_box h d0.out (NoLimb.box _ _ _ _) 0 _) (d0.out.set_ 0 _) (NoLimb.box _ _ _ _) 1 _
  have i1:Wd w8 f A7 n7 c7 ZQ:=⟨d5.1,d5.2.1,J _ _ _ _ d5.2.2⟩;have d8:Wd w8 a5 A4 n4 c4 (sg na (U%V)):=⟨e0.1,e0.2.1,J _ _ _ _ e0.2.2⟩;have i9:=J _ _ _ _ h9;have i2:Below w.heap.size w w8:=by rw[<- hw8];exact(o5.setCell (p:=⟨w3.heap.size,0,none⟩) (by simp only[];omega) _).setCell (p:=⟨w3.heap.size,1,none⟩) (by simp only[];omega) _
  have p9:Hid (w4.heap.size<w8.heap.size):=e5.out.lt;have s0:=e5.out.cell 0;have s1:=e5.out.cell 1;simp at s0 s1;clear v0 v1 v2 v3 J hw8 g6 g5 d0 g7 h8 i4 d5 e0;go_wp2_with fail;refine(Ze8 _ _ _ _ _ _ _ _ _ _ _ d8.lim i9 d8.2.1 hm).mono ?_;rintro e w9 ⟨a7,I,A9,n9,c9,l5,rfl,g9⟩;have e1:=d8.sgEq;rw[Zi]at e1;rw[e1,a6.out,k5.out]at g9;rcases g9 with ⟨-,rfl,d3⟩|⟨a1,-⟩
  case inr=>exact absurd f7 (by omega)
  clear e1;have n1:Hid (Blk _ _ _ _):=Zd a7 l6.out;have n5:Hid (Blk _ _ _ _):=Zd a7 j5.out;have l1:Hid (Blk _ _ _ _):=Zd a7 o4.out;have a4:Hid (Blk _ _ _ _):=Zd a7 e5.out;have d9:=i1.below a7;have l2:=i2.trans (a7.mono i2.size);have s0:=a4.out.cell 0;have s1:=a4.out.cell 1;have s2:=a4.out.frozen 0;have s3:=a4.out.frozen 1;simp at s0 s1;go_wp2_with fail;generalize hw10:(w9.setCell ⟨w4.heap.size,0,none⟩ (.bool I)).setCell ⟨w4.heap.size,1,none⟩ (.slice A9 n9 c9)=w10;have u:Hid (Blk w10 (w.heap.size+1+1) 39 #[.bool false,.slice none 0 0]):=by rw[<- hw10];exact(n1.out.far (by simp <;> omega) _).far (by simp <;> omega) _
  have a2:Hid (Blk w10 (w.heap.size+1+1+1) 39 #[.bool false,.slice none 0 0]):=by rw[<- hw10];exact(n5.out.far (by simp <;> omega) _).far (by simp <;> omega) _
  have e8:Hid (Blk w10 w3.heap.size 39 #[.bool f,.slice A7 n7 c7]):=by rw[<- hw10];exact(l1.out.far (by simp <;> omega) _).far (by simp <;> omega) _
  have e6:Hid (Blk w10 w4.heap.size 39 #[.bool I,.slice A9 n9 c9]):=by rw[<- hw10];exact(a4.out.set_ 0 _).set_ 1 _
  have T:∀ (A:Option Addr) (n c:Nat) (l:List Nat),Lim w9 A n c l->Lim w10 A n c l:=λA n c l h=>by
   rw[<- hw10];exact Lim.set_box (Lim.set_box h a4.out (NoLimb.box _ _ _ _) 0 _) (a4.out.set_ 0 _) (NoLimb.box _ _ _ _) 1 _
  have b0:Wd w10 f A7 n7 c7 ZQ:=⟨d9.1,d9.2.1,T _ _ _ _ d9.2.2⟩;have c1:Wd w10 I A9 n9 c9 ZR:=⟨d3.1,d3.2.1,T _ _ _ _ d3.2.2⟩;have j0:Below w.heap.size w w10:=by rw[<- hw10];exact(l2.setCell (p:=⟨w4.heap.size,0,none⟩) (by simp only[];omega) _).setCell (p:=⟨w4.heap.size,1,none⟩) (by simp only[];omega) _
  clear T hw10 s0 s1 s2 s3 i1 d8 d9 d3;have p0:=e8.out.cell 0;have p1:=e8.out.cell 1;have s0:=e6.out.cell 0;have s1:=e6.out.cell 1;simp at p0 p1 s0 s1;have q1:=u.out.cell 0;have q2:=u.out.cell 1;have q3:=u.out.frozen 0;have q4:=u.out.frozen 1;have r1:=a2.out.cell 0;have r2:=a2.out.cell 1;have r3:=a2.out.frozen 0;have r4:=a2.out.frozen 1;simp at q1 q2 r1 r2
  go_region
  go_wp2
  generalize hw12:((((w10.setCell ⟨w.heap.size+1+1,0,none⟩ (.bool f)).setCell ⟨w.heap.size+1+1,1,none⟩ (.slice A7 n7 c7)).setCell ⟨w.heap.size+1+1+1,0,none⟩ (.bool I)).setCell ⟨w.heap.size+1+1+1,1,none⟩ (.slice A9 n9 c9)).drew=w12;have b1:=(u.out.set_ 0 (.bool f)).set_ 1 (.slice A7 n7 c7);have b2:=(a2.out.far (p:=⟨w.heap.size+1+1,0,none⟩) (by simp <;> omega) (.bool f)).far (p:=⟨w.heap.size+1+1,1,none⟩) (by simp <;> omega) (.slice A7 n7 c7);have b3:Blk w12 (w.heap.size+1+1) 39 #[.bool f,.slice A7 n7 c7]:=by rw[<- hw12];exact(b1.far (by simp <;> omega) _).far (by simp <;> omega) _
  have b4:Blk w12 (w.heap.size+1+1+1) 39 #[.bool I,.slice A9 n9 c9]:=by rw[<- hw12];exact(b2.set_ 0 _).set_ 1 _
  have h4:Below w.heap.size w w12:=by rw[<- hw12];exact Zf ((((j0.setCell (p:=⟨w.heap.size+1+1,0,none⟩) (by simp <;> omega) _).setCell (p:=⟨w.heap.size+1+1,1,none⟩) (by simp <;> omega) _).setCell (p:=⟨w.heap.size+1+1+1,0,none⟩) (by simp <;> omega) _).setCell (p:=⟨w.heap.size+1+1+1,1,none⟩) (by simp <;> omega) _) 1
  have e9:∀ (A:Option Addr) (n c:Nat) (l:List Nat),Lim w10 A n c l->Lim w12 A n c l:=λA n c l h=>by
   rw[<- hw12];exact Lim.set_box (Lim.set_box (Lim.set_box (Lim.set_box h u.out (NoLimb.box _ _ _ _) 0 _) (u.out.set_ 0 _) (NoLimb.box _ _ _ _) 1 _) b2 (NoLimb.box _ _ _ _) 0 _) (b2.set_ 0 _) (NoLimb.box _ _ _ _) 1 _
  have t1:=b3.cell 0;have t2:=b3.cell 1;have t3:=b4.cell 0;have t4:=b4.cell 1;simp at t1 t2 t3 t4;refine bodyPost_ret (v:=.tuple #[.agg #[.bool f,.slice A7 n7 c7],.agg #[.bool I,.slice A9 n9 c9],.int .i64 0]) (by simp[results,Tryz.results76,go_sem,t1,t2,t3,t4]) rfl ?_;exact hfin.out _ _ ⟨h4,_,_,_,_,_,_,_,_,rfl,⟨b0.1,b0.2.1,e9 _ _ _ _ b0.2.2⟩,⟨c1.1,c1.2.1,e9 _ _ _ _ c1.2.2⟩⟩
theorem Zgj(na nb:Bool)(A B:Option Addr)(n c m d:Nat)(za zb:Int)(w:World)(ha:Wd w na A n c za)(hb:Wd w nb B m d zb)(h0:zb≠0) :
    Calls Tryz.prog 76 #[.agg #[.bool na,.slice A n c],.agg #[.bool nb,.slice B m d]] w (Zjl w za zb):=by
 rcases Qo (za.natAbs%zb.natAbs)with hy|hy;exact Zoy na nb A B n c m d za zb w ha hb h0 hy
 ·by_cases hs:na=nb
  exact Zom na nb A B n c m d za zb w ha hb h0 hy hs;exact Znd na nb A B n c m d za zb w ha hb h0 hy hs
theorem Zjn(na:Bool)(A B:Option Addr)(n c m d:Nat)(za zb:Int)(w:World)(ha:Wd w na A n c za)(hb:Wd w false B m d zb)(h0:0<zb) :
    Calls Tryz.prog 33 #[.agg #[.bool na,.slice A n c],.agg #[.bool false,.slice B m d]] w (Zd0 w (Qg za zb)):=by
 have e3:=Zdn ha.small hb.small;have hx:=Za (Zjm (a:=za) (b:=zb) (by omega));have hy:=Za (Zi5 (a:=za) (b:=zb) (by omega));have I:=Za (Zk6 (a:=za) (b:=zb) (by omega));have b8:Zf6 za zb=(Qp za.natAbs zb.natAbs:Nat):=by unfold Zf6;rw[if_neg (by omega)]
 rw[b8]at hx hy I;have HA:=Za ha;have HB:=Za hb;obtain⟨G,hG⟩:∃ G,Qp za.natAbs zb.natAbs=G:=⟨_,rfl⟩;rw[hG]at hx hy I e3
 have HGc:Hid (∀ W:World,Wd W na A n c za->Wd W false B m d zb->Calls Tryz.prog 59 #[.agg #[.bool na,.slice A n c],.agg #[.bool false,.slice B m d]] W (ResW W (G:Int))):=λW h1 h2=>by
  have:=Zk9 na false A B n c m d za zb W h1 h2;rw[hG]at this;exact this
 generalize Qg za zb=R at *;clear ha hb hG b8;have a6:∀ X Y Z:Obj,Below w.heap.size w (((w.alloc X).alloc Y).alloc Z):=λX Y Z=>(((Qe w.heap.size w).alloc (Qd _) _).alloc (by simp) _).alloc (by simp;omega) _;have a6:=Za a6;go_enter Tryz.func33,Tryz.ntmps33;go_wp2_with fail;have q0:Blk (((w.alloc (.cells #[.bool na,.slice A n c] 39)).alloc (.cells #[.bool false,.slice B m d] 39)).alloc (.cells #[.bool false,.slice none 0 0,.bool false,.slice none 0 0] 41)) w.heap.size 39 #[.bool na,.slice A n c]:=((Qc _ _ _).alloc _).alloc _
 have q1:Blk (((w.alloc (.cells #[.bool na,.slice A n c] 39)).alloc (.cells #[.bool false,.slice B m d] 39)).alloc (.cells #[.bool false,.slice none 0 0,.bool false,.slice none 0 0] 41)) (w.heap.size+1) 39 #[.bool false,.slice B m d]:=by
  have:=(Qc (w.alloc (.cells #[.bool na,.slice A n c] 39)) 39 #[.bool false,.slice B m d]).alloc (.cells #[.bool false,.slice none 0 0,.bool false,.slice none 0 0] 41);simp only[Qa]at this;exact this
 have q2:Blk (((w.alloc (.cells #[.bool na,.slice A n c] 39)).alloc (.cells #[.bool false,.slice B m d] 39)).alloc (.cells #[.bool false,.slice none 0 0,.bool false,.slice none 0 0] 41)) (w.heap.size+1+1) 41 #[.bool false,.slice none 0 0,.bool false,.slice none 0 0]:=by
  have:=Qc ((w.alloc (.cells #[.bool na,.slice A n c] 39)).alloc (.cells #[.bool false,.slice B m d] 39)) 41 #[.bool false,.slice none 0 0,.bool false,.slice none 0 0];simp only[Qa]at this;exact this
 refine(HGc.out _ (((HA.out.alloc _).alloc _).alloc _) (((HB.out.alloc _).alloc _).alloc _)).mono ?_;rintro e w1 ⟨h,ng,Ag,kg,cg,code,rfl,hR⟩;rcases hR with ⟨-,rfl,e0⟩|⟨a9,-⟩
 case inr=>exact absurd a9 (by omega)
 have J:Below w.heap.size w w1:=(a6.out _ _ _).trans (h.mono (by simp;omega));have c4:=Za (HA.out.below J);have c9:=Za (HB.out.below J);have s1:w.heap.size+1+1<w1.heap.size:=by have:=h.size;simp at this;omega
 replace q0:=Zd h q0;replace q1:=Zd h q1;replace q2:=Zd h q2;have c6:=Za e0;have s2:w.heap.size+1+1<w1.heap.size:=s1;clear h e0;obtain⟨W3,C,b1,q3,kW,kB,s3⟩:=Zt 39 #[.bool ng,.slice Ag kg cg] J (by omega);replace q0:=kB _ _ _ q0;replace q1:=kB _ _ _ q1;replace q2:=kB _ _ _ q2;have d0:=Za (kW _ _ _ _ _ c4.out);have b3:=Za (kW _ _ _ _ _ c9.out);have O:=Za (kW _ _ _ _ _ c6.out);have s4:w.heap.size+1+1<w1.heap.size:=s2;clear kW kB c4 c9 c6 J;have c0:=Za q0.two;have c1:=Za q1.two;have c3:=Za q3.two;rw[<- C]at c0 c1 c3;obtain⟨e2,e1,-,-⟩:=c0.out;obtain⟨V,a0,-,-⟩:=c1.out;obtain⟨U,a2,-,-⟩:=c3.out;have hq:=Za (Qb q0 (Qb q1 (Qb q2 q3)));clear q0 q1 q2 q3;replace C:=Za C;go_wp2_with fail;rw[C.out];refine(Zgj na ng A Ag n c kg cg za G _ d0.out O.out I.out).mono ?_;rintro e w4 ⟨f,nx,Ax,kx,cx,nr,Ar,kr,cr,rfl,a4,-⟩;rw[hx.out]at a4;have b4:Below w.heap.size w w4:=b1.trans (f.mono (by omega));have b2:=Za (b3.out.below f);have a8:=Za (O.out.below f);have s5:w1.heap.size+1<=w4.heap.size:=by have:=f.size;omega
 have q1:=Zd f hq.out.2.1;have q2:=Zd f hq.out.2.2.1;have q3:=Zd f hq.out.2.2.2;clear f c0 c1 c3 e2 e1 V a0 U a2 C d0 b3 O b1 hq;obtain⟨W5,a3,d4,q5,kW,kB,s6⟩:=Zt 39 #[.bool nx,.slice Ax kx cx] b4 (by omega);replace q1:=kB _ _ _ q1;replace q2:=kB _ _ _ q2;replace q3:=kB _ _ _ q3;have d8:=Za (kW _ _ _ _ _ b2.out);have b5:=Za (kW _ _ _ _ _ a8.out);have d6:=Za (kW _ _ _ _ _ a4);clear kW kB b2 a8 a4 b4;obtain⟨W6,o,d7,-,kW,kB,s7⟩:=Zt 39 #[.bool nr,.slice Ar kr cr] d4 (by omega);replace q1:=kB _ _ _ q1;replace q2:=kB _ _ _ q2;replace q3:=kB _ _ _ q3;replace q5:=kB _ _ _ q5;have c7:=Za (kW _ _ _ _ _ d8.out);have a7:=Za (kW _ _ _ _ _ b5.out);have d3:=Za (kW _ _ _ _ _ d6.out);clear kW kB d8 b5 d6 d4;have c1:=Za q1.two;have c3:=Za q3.two;rw[<- o,<- a3]at c1 c3;obtain⟨V,a0,-,-⟩:=c1.out;obtain⟨U,a2,-,-⟩:=c3.out;have hq:=Za (Qb q2 q5);clear q1 q2 q3 q5;rw[<- a3]at o;replace o:=Za o;clear a3;go_wp2_with fail;rw[o.out];refine(Zgj false ng B Ag m d kg cg zb G _ c7.out a7.out I.out).mono ?_;rintro e w7 ⟨u,ny,Ay,ky,cy,ns,As,ks,cs,rfl,T,-⟩;rw[hy.out]at T;have d9:Below w.heap.size w w7:=d7.trans (u.mono (by omega));have b7:=Za (d3.out.below u);have s8:w4.heap.size+2<=w7.heap.size:=by have:=u.size;omega
 have q2:=Zd u hq.out.1;have q5:=Zd u hq.out.2;clear u c1 c3 V a0 U a2 o c7 a7 d3 d7 hq;obtain⟨W8,a5,b9,q8,kW,kB,s9⟩:=Zt 39 #[.bool ny,.slice Ay ky cy] d9 (by omega);replace q2:=kB _ _ _ q2;replace q5:=kB _ _ _ q5;have b6:=Za (kW _ _ _ _ _ b7.out);have b0:=Za (kW _ _ _ _ _ T);clear kW kB b7 T d9;obtain⟨W9,y,a1,-,kW,kB,e7⟩:=Zt 39 #[.bool ns,.slice As ks cs] b9 (by omega);replace q2:=kB _ _ _ q2;replace q5:=kB _ _ _ q5;replace q8:=kB _ _ _ q8;have e5:=Za (kW _ _ _ _ _ b6.out);have e4:=Za (kW _ _ _ _ _ b0.out);clear kW kB b6 b0 b9;have c5:=Za q5.two;have c8:=Za q8.two;have c2:=Za q2.four;have hq:=Za q2;rw[<- y,<- a5]at c5 c8 c2;rw[<- a5]at y;clear a5 q2 q5 q8;obtain⟨e9,f5,-,-⟩:=c5.out;obtain⟨f7,f3,-,-⟩:=c8.out;obtain⟨f6,e6,g0,f8,f4,e8,f9,f0⟩:=c2.out;replace y:=Za y;replace a1:=Za a1;go_wp2_with fail;rw[y.out];obtain⟨W,hW,hB,d5,kW,-⟩:=Zaa nx Ax kx cx ny Ay ky cy a1.out (by omega) hq.out;rw[hW];obtain⟨r0,r1,r2,r3,-⟩:=d5.four;refine bodyPost_ret (v:=.agg #[.bool nx,.slice Ax kx cx,.bool ny,.slice Ay ky cy]) (by simp[results,Tryz.results33,go_sem,r0,r1,r2,r3]) rfl ?_;exact⟨hB,_,_,_,_,_,_,_,_,rfl,kW _ _ _ _ _ e5.out,kW _ _ _ _ _ e4.out⟩
theorem Zin(na:Bool)(A B:Option Addr)(n c m d:Nat)(za zb:Int)(w:World)(ha:Wd w na A n c za)(hb:Wd w false B m d zb)(h0:0<zb) :
    Calls Tryz.prog 157 #[.agg #[.bool na,.slice A n c],.agg #[.bool false,.slice B m d]] w (Zd0 w (Qg za zb)):=by
 have e7:=Zdn ha.small hb.small;have hx:=Za (Zjm (a:=za) (b:=zb) (by omega));have hy:=Za (Zi5 (a:=za) (b:=zb) (by omega));have U:=Za (Zk6 (a:=za) (b:=zb) (by omega));have d0:Zf6 za zb=(Qp za.natAbs zb.natAbs:Nat):=by unfold Zf6;rw[if_neg (by omega)]
 rw[d0]at hx hy U;have HA:=Za ha;have HB:=Za hb;obtain⟨G,hG⟩:∃ G,Qp za.natAbs zb.natAbs=G:=⟨_,rfl⟩;rw[hG]at hx hy U e7
 have HGc:Hid (∀ W:World,Wd W na A n c za->Wd W false B m d zb->Calls Tryz.prog 151 #[.agg #[.bool na,.slice A n c],.agg #[.bool false,.slice B m d]] W (ResW W (G:Int))):=λW h1 h2=>by
  have:=Zj3 na false A B n c m d za zb W h1 h2;rw[hG]at this;exact this
 generalize Qg za zb=R at *;clear ha hb hG d0;have a9:∀ X Y Z:Obj,Below w.heap.size w (((w.alloc X).alloc Y).alloc Z):=λX Y Z=>(((Qe w.heap.size w).alloc (Qd _) _).alloc (by simp) _).alloc (by simp;omega) _;have a9:=Za a9;go_enter Tryz.func157,Tryz.ntmps157;go_wp2_with fail;have q0:Blk (((w.alloc (.cells #[.bool na,.slice A n c] 39)).alloc (.cells #[.bool false,.slice B m d] 39)).alloc (.cells #[.bool false,.slice none 0 0,.bool false,.slice none 0 0] 41)) w.heap.size 39 #[.bool na,.slice A n c]:=((Qc _ _ _).alloc _).alloc _
 have q1:Blk (((w.alloc (.cells #[.bool na,.slice A n c] 39)).alloc (.cells #[.bool false,.slice B m d] 39)).alloc (.cells #[.bool false,.slice none 0 0,.bool false,.slice none 0 0] 41)) (w.heap.size+1) 39 #[.bool false,.slice B m d]:=by
  have:=(Qc (w.alloc (.cells #[.bool na,.slice A n c] 39)) 39 #[.bool false,.slice B m d]).alloc (.cells #[.bool false,.slice none 0 0,.bool false,.slice none 0 0] 41);simp only[Qa]at this;exact this
 have q2:Blk (((w.alloc (.cells #[.bool na,.slice A n c] 39)).alloc (.cells #[.bool false,.slice B m d] 39)).alloc (.cells #[.bool false,.slice none 0 0,.bool false,.slice none 0 0] 41)) (w.heap.size+1+1) 41 #[.bool false,.slice none 0 0,.bool false,.slice none 0 0]:=by
  have:=Qc ((w.alloc (.cells #[.bool na,.slice A n c] 39)).alloc (.cells #[.bool false,.slice B m d] 39)) 41 #[.bool false,.slice none 0 0,.bool false,.slice none 0 0];simp only[Qa]at this;exact this
 refine(HGc.out _ (((HA.out.alloc _).alloc _).alloc _) (((HB.out.alloc _).alloc _).alloc _)).mono ?_;rintro e w1 ⟨o,ng,Ag,kg,cg,code,rfl,hR⟩;rcases hR with ⟨-,rfl,e6⟩|⟨b2,-⟩
 case inr=>exact absurd b2 (by omega)
 have J:Below w.heap.size w w1:=(a9.out _ _ _).trans (o.mono (by simp;omega));have d4:=Za (HA.out.below J);have d7:=Za (HB.out.below J);have s1:w.heap.size+1+1<w1.heap.size:=by have:=o.size;simp at this;omega
 replace q0:=Zd o q0;replace q1:=Zd o q1;replace q2:=Zd o q2;obtain⟨a2,a0,-,-⟩:=q0.two;obtain⟨C,I,-,-⟩:=q1.two;have hq:=Za (Qb q0 (Qb q1 q2));clear q0 q1 q2 o;go_wp2_with fail;refine(Zer ng Ag kg cg _).mono ?_;rintro e w2 ⟨rfl,f⟩;have c9:Below w.heap.size w w2:=J.trans (f.mono J.size);have c7:=Za (d4.out.below f);have b7:=Za (d7.out.below f);have d5:=Za (e6.below f);have s2:w.heap.size+1+1<w2.heap.size:=by have:=f.size;omega
 have q0:=Zd f hq.out.1;have q1:=Zd f hq.out.2.1;have q2:=Zd f hq.out.2.2;clear a2 a0 C I J f e6 d4 d7 hq;obtain⟨W3,T,b4,q3,kW,kB,s3⟩:=Zt 39 #[.bool ng,.slice Ag kg cg] c9 (by omega);replace q0:=kB _ _ _ q0;replace q1:=kB _ _ _ q1;replace q2:=kB _ _ _ q2;have d8:=Za (kW _ _ _ _ _ c7.out);have b6:=Za (kW _ _ _ _ _ b7.out);have V:=Za (kW _ _ _ _ _ d5.out);have s4:w.heap.size+1+1<w2.heap.size:=s2;clear kW kB c7 b7 d5 c9;have c0:=Za q0.two;have c1:=Za q1.two;have c3:=Za q3.two;rw[<- T]at c0 c1 c3;obtain⟨a2,a0,-,-⟩:=c0.out;obtain⟨C,I,-,-⟩:=c1.out;obtain⟨a3,a5,-,-⟩:=c3.out;have hq:=Za (Qb q0 (Qb q1 (Qb q2 q3)));clear q0 q1 q2 q3;replace T:=Za T;go_wp2_with fail;rw[T.out];refine(Zf1 na ng A Ag n c kg cg za G _ d8.out V.out U.out).mono ?_;rintro e w4 ⟨h,nx,Ax,kx,cx,nr,Ar,kr,cr,rfl,a7,-⟩;rw[hx.out]at a7;have b8:Below w.heap.size w w4:=b4.trans (h.mono (by omega));have b5:=Za (b6.out.below h);have b1:=Za (V.out.below h);have s5:w2.heap.size+1<=w4.heap.size:=by have:=h.size;omega
 have q1:=Zd h hq.out.2.1;have q2:=Zd h hq.out.2.2.1;have q3:=Zd h hq.out.2.2.2;clear h c0 c1 c3 a2 a0 C I a3 a5 T d8 b6 V b4 hq;obtain⟨W5,a6,e0,q5,kW,kB,s6⟩:=Zt 39 #[.bool nx,.slice Ax kx cx] b8 (by omega);replace q1:=kB _ _ _ q1;replace q2:=kB _ _ _ q2;replace q3:=kB _ _ _ q3;have e4:=Za (kW _ _ _ _ _ b5.out);have b9:=Za (kW _ _ _ _ _ b1.out);have e2:=Za (kW _ _ _ _ _ a7);clear kW kB b5 b1 a7 b8;obtain⟨W6,u,e3,-,kW,kB,s7⟩:=Zt 39 #[.bool nr,.slice Ar kr cr] e0 (by omega);replace q1:=kB _ _ _ q1;replace q2:=kB _ _ _ q2;replace q3:=kB _ _ _ q3;replace q5:=kB _ _ _ q5;have d6:=Za (kW _ _ _ _ _ e4.out);have b0:=Za (kW _ _ _ _ _ b9.out);have d9:=Za (kW _ _ _ _ _ e2.out);clear kW kB e4 b9 e2 e0;have c1:=Za q1.two;have c3:=Za q3.two;rw[<- u,<- a6]at c1 c3;obtain⟨C,I,-,-⟩:=c1.out;obtain⟨a3,a5,-,-⟩:=c3.out;have hq:=Za (Qb q2 q5);clear q1 q2 q3 q5;rw[<- a6]at u;replace u:=Za u;clear a6;go_wp2_with fail;rw[u.out];refine(Zf1 false ng B Ag m d kg cg zb G _ d6.out b0.out U.out).mono ?_;rintro e w7 ⟨y,ny,Ay,ky,cy,ns,As,ks,cs,rfl,a1,-⟩;rw[hy.out]at a1;have e5:Below w.heap.size w w7:=e3.trans (y.mono (by omega));have c6:=Za (d9.out.below y);have s8:w4.heap.size+2<=w7.heap.size:=by have:=y.size;omega
 have q2:=Zd y hq.out.1;have q5:=Zd y hq.out.2;clear y c1 c3 C I a3 a5 u d6 b0 d9 e3 hq;obtain⟨W8,a8,d3,q8,kW,kB,s9⟩:=Zt 39 #[.bool ny,.slice Ay ky cy] e5 (by omega);replace q2:=kB _ _ _ q2;replace q5:=kB _ _ _ q5;have c4:=Za (kW _ _ _ _ _ c6.out);have b3:=Za (kW _ _ _ _ _ a1);clear kW kB c6 a1 e5;obtain⟨W9,O,a4,-,kW,kB,f3⟩:=Zt 39 #[.bool ns,.slice As ks cs] d3 (by omega);replace q2:=kB _ _ _ q2;replace q5:=kB _ _ _ q5;replace q8:=kB _ _ _ q8;have e9:=Za (kW _ _ _ _ _ c4.out);have e8:=Za (kW _ _ _ _ _ b3.out);clear kW kB c4 b3 d3;have c5:=Za q5.two;have c8:=Za q8.two;have c2:=Za q2.four;have hq:=Za q2;rw[<- O,<- a8]at c5 c8 c2;rw[<- a8]at O;clear a8 q2 q5 q8;obtain⟨f5,f9,-,-⟩:=c5.out;obtain⟨g1,f7,-,-⟩:=c8.out;obtain⟨g0,f0,g5,g2,f8,f4,g4,f6⟩:=c2.out;replace O:=Za O;replace a4:=Za a4;go_wp2_with fail;rw[O.out];obtain⟨W,hW,hB,e1,kW,-⟩:=Zaa nx Ax kx cx ny Ay ky cy a4.out (by omega) hq.out;rw[hW];obtain⟨r0,r1,r2,r3,-⟩:=e1.four;refine bodyPost_ret (v:=.agg #[.bool nx,.slice Ax kx cx,.bool ny,.slice Ay ky cy]) (by simp[results,Tryz.results157,go_sem,r0,r1,r2,r3]) rfl ?_;exact⟨hB,_,_,_,_,_,_,_,_,rfl,kW _ _ _ _ _ e9.out,kW _ _ _ _ _ e8.out⟩
theorem Zfk(w:World) :
    Calls Tryz.prog 148 #[.int .i64 0] w λe w'=>e=.returned (.tuple #[])/\w'=w:=by
 go_enter Tryz.func148,Tryz.ntmps148;go_wp2_with fail
 go_end0
 exact⟨rfl,rfl⟩
theorem Zgx(p:Addr)(w:World) :
    CallsD Tryz.prog 147 #[.pointer (some p)] .returning w λe u' w'=>e=.returned (.tuple #[])/\u'=.returning/\w'=w:=by
 refine callsD_of_wpS Tryz.func147 rfl λc₀ cs hu=>?_;apply wpS_seq;apply wpS_region;simp[wpOpsS,go_sem,recoverD,hu,Tryz.ntmps147,Exit.thenS];rw[show (#[Value.pointer (some p)]++(Qh 14 undef).setIfInBounds 4 Value.nilIface)=#[Value.pointer (some p),undef,undef,undef,undef,Value.nilIface,undef,undef,undef,undef,undef,undef,undef,undef,undef] from rfl];refine wpS_of_wp ?_;go_wp2_with fail;cases c₀
 simp_all [bodyPostS,results,Tryz.results147]
theorem Zf9(na:Bool)(A B:Option Addr)(n c m d:Nat)(za zb:Int)(w:World)(ha:Wd w na A n c za)(hb:Wd w false B m d zb)(h0:0<zb) :
    Calls Tryz.prog 113 #[.agg #[.bool na,.slice A n c],.agg #[.bool false,.slice B m d]] w (Zgz w (Qg za zb)):=by
 have c9:0<m:=by rw[<- hb.lim.len];exact length_digits_pos.2 (by omega)
 have a8:((m:Int) == 0)=false:=by simp;omega
 have hm:=hb.2.1;have HA:=Za ha;have HB:=Za hb;clear ha hb;obtain⟨W0,U,T,hq,s0⟩:=Zg2 w 39 #[.bool na,.slice A n c] 39 #[.bool false,.slice B m d] 41 #[.bool false,.slice none 0 0,.bool false,.slice none 0 0] 26 #[.int .i64 0];replace U:=Za U;replace hq:=Za hq
 go_enter_defers Tryz.func113,Tryz.ntmps113
 go_wp2_with fail;rw[U.out];have V:=Za (HA.out.below T);have a7:=Za (HB.out.below T);clear HA HB U;refine(Zoa na A n c _ W0 V.out.lim).mono ?_;rw[V.out.ok];rintro e w1 ⟨rfl,o⟩;have a2:Below w.heap.size w w1:=T.trans (o.mono T.size);have s1:W0.heap.size<=w1.heap.size:=o.size;have a9:=Za (V.out.below o);have Y:=Za (a7.out.below o);obtain⟨q0,q1,q2,q3⟩:=hq.out;replace q0:=Zd o q0;replace q1:=Zd o q1;replace q2:=Zd o q2;replace q3:=Zd o q3;obtain⟨I,y,-,-⟩:=q0.two;obtain⟨J,O,-,-⟩:=q1.two;clear hq o V a7 T;have hq:=Za (Qb q0 (Qb q1 (Qb q2 q3)));clear q0 q1 q2 q3;simp only[Zfr,if_true];go_wp2_with fail;refine(Zfk w1).mono ?_;rintro e w1 ⟨rfl,rfl⟩;go_wp2_with fail;refine(Zoa false B m d _ w1 Y.out.lim).mono ?_;rw[Y.out.ok];rintro e w2 ⟨rfl,u⟩;have a1:Below w.heap.size w w2:=a2.trans (u.mono a2.size);have s2:w1.heap.size<=w2.heap.size:=u.size;have a6:=Za (a9.out.below u);have a5:=Za (Y.out.below u);obtain⟨q0,q1,q2,q3⟩:=hq.out;replace q0:=Zd u q0;replace q1:=Zd u q1;replace q2:=Zd u q2;replace q3:=Zd u q3;clear I y J O;obtain⟨I,y,-,-⟩:=q0.two;obtain⟨J,O,-,-⟩:=q1.two;clear hq u a9 Y a2;have hq:=Za (Qb q0 (Qb q1 (Qb q2 q3)));clear q0 q1 q2 q3;simp only[Zfr,if_true];go_wp2_with fail;refine(Zfk w2).mono ?_;rintro e w2 ⟨rfl,rfl⟩;go_wp2_with fail;refine(Zjf false B m d w2 (by omega) false a8).mono ?_
 rintro e w3 ⟨rfl,h⟩;have a0:Below w.heap.size w w3:=a1.trans (h.mono a1.size);have s3:w2.heap.size<=w3.heap.size:=h.size;have b2:=Za (a6.out.below h);have a4:=Za (a5.out.below h);obtain⟨q0,q1,q2,q3⟩:=hq.out;replace q0:=Zd h q0;replace q1:=Zd h q1;replace q2:=Zd h q2;replace q3:=Zd h q3;clear I y J O;obtain⟨I,y,-,-⟩:=q0.two;obtain⟨J,O,-,-⟩:=q1.two;clear hq h a6 a5 a1;have hq:=Za (Qb q2 q3);clear q0 q1 q2 q3;go_wp2_with fail;refine(Zin na A B n c m d za zb w3 b2.out a4.out h0).mono ?_;rintro e w4 ⟨C,nx,Ax,kx,cx,ny,Ay,ky,cy,rfl,hF⟩;have b9:Below w.heap.size w w4:=a0.trans (C.mono a0.size);have s4:w3.heap.size<=w4.heap.size:=C.size;have q2:=Zd C hq.out.1;have q3:=Zd C hq.out.2;clear hq C b2 a4 a0 I y J O;have c2:=Za q2.four;have c3:=q3.cell 0;have f3:=q3.frozen 0;simp at c3;obtain⟨c1,b5,c8,c4,c0,b6,c6,b8⟩:=c2.out;have hq:=Za (Qb q2 q3);clear q2 q3;go_wp2_with fail;obtain⟨W5,b1,b3,q2,kW,kB,s5⟩:=Zaa nx Ax kx cx ny Ay ky cy b9 (by omega) hq.out.1;have q3:=kB _ _ _ (by omega) hq.out.2;have b4:=Za (kW _ _ _ _ _ hF.1);have a3:=Za (kW _ _ _ _ _ hF.2);rw[b1];clear kW kB c1 b5 c8 c4 c3 f3 c0 b6 c6 b8 hq hF;obtain⟨W6,b0,c7,q3,kW,kB,s6⟩:=Zbr 0 b3 (by omega) q3;replace q2:=kB _ _ _ (by omega) q2;have c5:=Za (kW _ _ _ _ _ b4.out);have b7:=Za (kW _ _ _ _ _ a3.out);rw[b0];obtain⟨r0,r1,r2,r3,-⟩:=q2.four;have r4:=q3.cell 0;simp at r4
 clear kW kB b3 b4 a3 b1 b0;refine leaves_cons (f:=147) (args:=#[.pointer (some ⟨w.heap.size+1+1+1,0,none⟩)]) (by simp) (by simp[go_sem]) ?_;refine(Zgx _ _).mono ?_;rintro e u' w'' ⟨rfl,rfl,rfl⟩;refine⟨.tuple #[.agg #[.bool nx,.slice Ax kx cx,.bool ny,.slice Ay ky cy],.int .i64 0],by simp[results,Tryz.results113,go_sem,r0,r1,r2,r3,r4],?_⟩;exact⟨c7,_,_,_,_,_,_,_,_,rfl,c5.out,b7.out⟩
theorem Zj5(na nb:Bool)(A B:Option Addr)(n c m d:Nat)(za zb:Int)(w:World)(ha:Wd w na A n c za)(hb:Wd w nb B m d zb) :
    Calls Tryz.prog 133 #[.agg #[.bool na,.slice A n c],.agg #[.bool nb,.slice B m d]] w (ResW w (za*zb)):=by
 have a1:=ha.lim;have T:=hb.lim;have hn:=ha.2.1;have hm:=hb.2.1;have J:∀ X Y Z V:Obj,Below w.heap.size w ((((w.alloc X).alloc Y).alloc Z).alloc V):=λX Y Z V=>((((Qe w.heap.size w).alloc (Qd _) _).alloc (by simp) _).alloc (by simp;omega) _).alloc (by simp;omega) _
 have hW:∀ X Y Z t,WL ((((w.alloc X).alloc Y).alloc Z).alloc (.cells #[.bool na,.slice A n c,.bool nb,.slice B m d] t)) (some ⟨w.heap.size+1+1+1,0,none⟩) 2 2 [⟨na,A,n,c,digits za.natAbs⟩,⟨nb,B,m,d,digits zb.natAbs⟩]:=λX Y Z t=>by
  have:=WL.two (neg:=na) (neg':=nb) (((a1.alloc X).alloc Y).alloc Z) (((T.alloc X).alloc Y).alloc Z) t;simp only[Qa]at this;exact this
 have hW:=Za hW;have J:=Za J;have I:Hid (okW na (digits za.natAbs)=true/\okW nb (digits zb.natAbs)=true):=⟨ha.ok,hb.ok⟩;have a4:=Za ha.sgEq;have a3:=Za hb.sgEq;clear ha hb;go_enter Tryz.func133,Tryz.ntmps133;go_wp2_with fail;refine(Zdt (hW.out _ _ _ _) (by have:=I.out;simp[WE.ok,this])).mono ?_;rintro e w1 ⟨rfl,o⟩;obtain⟨u,a2⟩:=Zcp o;have a9:w.heap.size+1+1+1<w1.heap.size:=by have:=o.size;simp at this;omega
 have y:Below w.heap.size w w1:=(J.out _ _ _ _).trans (o.mono (by simp;omega));have g0:w1.cell? ⟨w.heap.size,0,none⟩=some (.bool na):=by simp[u,go_sem]
 have g1:w1.cell? ⟨w.heap.size,1,none⟩=some (.slice A n c):=by simp[u,go_sem]
 have g2:w1.cell? ⟨w.heap.size+1,0,none⟩=some (.bool nb):=by simp[u,go_sem]
 have g3:w1.cell? ⟨w.heap.size+1,1,none⟩=some (.slice B m d):=by simp[u,go_sem]
 have gf:w1.frozen? ⟨w.heap.size+1,0,none⟩=false:=by simp[a2,go_sem]
 have gB:Blk w1 (w.heap.size+1) 39 #[.bool nb,.slice B m d]:=by
  refine Zd o ((Blk.alloc (Blk.alloc ?_ _) _));have:=Qc (w.alloc (.cells #[.bool na,.slice A n c] 39)) 39 #[.bool nb,.slice B m d];simp only[Qa]at this;exact this
 have g7:Blk w1 (w.heap.size+1+1) 39 #[.bool false,.slice none 0 0]:=by
  refine Zd o (Blk.alloc ?_ _);have:=Qc ((w.alloc (.cells #[.bool na,.slice A n c] 39)).alloc (.cells #[.bool nb,.slice B m d] 39)) 39 #[.bool false,.slice none 0 0];simp only[Qa]at this;exact this
 have U:=a1.below y;have O:=T.below y;have HB:=Za gB;clear gB u a2;have g5:=g7.cell 0;have g6:=g7.cell 1;have g8:=g7.frozen 0;have g9:=g7.frozen 1;simp at g5 g6;go_wp2_with fail
 go_region_held3 (λw'=>w'.cell? ⟨w.heap.size,0,none⟩=some (.bool na)/\w'.cell? ⟨w.heap.size,1,none⟩=some (.slice A n c)/\w'.cell? ⟨w.heap.size+1,0,none⟩=some (.bool nb)/\w'.cell? ⟨w.heap.size+1,1,none⟩=some (.slice B m d))
  (((try dsimp only);(repeat' apply Qb);all_goals (first|go_keep|(simp[*,go_sem];done))))
  (first
   | (go_at_call 178;refine(Zvh _ _ _ _ _ _ _ _ _ (by exact U) (by exact O) (by omega) (by omega)).mono ?_;rintro e w2 ⟨A2,n2,c2,l2,rfl,a8,a7,f⟩;have k0:=Zb f g0;have k1:=Zb f g1;have j0:=Zb f g2;have k2:=Zb f g3;have k3:=Zb f g5;have k4:=Zb f g6;have k5:=Zk f g5 g8;have k6:=Zk f g6 g9;have k7:=Zd f g7)
   | (go_at_call 158;refine(Zb5 _ _ _ _ _ _ (by exact a8)).mono ?_;rintro e w3 ⟨h,a0,A3,n3,c3,C,rfl,a6⟩;have m0:=Zb h k0;have m1:=Zb h k1;have i0:=Zb h j0;have m2:=Zb h k2;have m3:=Zb h k3;have m4:=Zb h k4;have m5:=Zk h k3 k5;have m6:=Zk h k4 k6;have m7:=Zd h k7))
 have a5:Below w.heap.size w w3:=(y.trans ((Zr f).mono y.size)).trans (h.mono (Nat.le_trans y.size (Zr f).size))
 go_wp2
 have HZ:sg (na != nb) (val l2)=za*zb:=by
  have h1:=a4.out;have h2:=a3.out;rw[a7.2,Zxs,h1,h2]
 refine bodyPost_ret (v:=.tuple #[.agg #[.bool a0,.slice A3 n3 c3],.int .i64 C]) (by simp[results,Tryz.results133,go_sem,m3,m4]) rfl ?_;exact ResW.box (HZ▸a6) a5 (by omega) m7
theorem Zxo(na nb:Bool)(A B:Option Addr)(n c m d:Nat)(za zb:Int)(w:World)(ha:Wd w na A n c za)(hb:Wd w nb B m d zb) :
    Calls Tryz.prog 120 #[.agg #[.bool na,.slice A n c],.agg #[.bool nb,.slice B m d]] w (ResW w (za-zb)):=by
 have a1:=ha.lim;have T:=hb.lim;have hn:=ha.2.1;have hm:=hb.2.1;have C:∀ X Y Z V:Obj,Below w.heap.size w ((((w.alloc X).alloc Y).alloc Z).alloc V):=λX Y Z V=>((((Qe w.heap.size w).alloc (Qd _) _).alloc (by simp) _).alloc (by simp;omega) _).alloc (by simp;omega) _
 have hW:∀ X Y Z t,WL ((((w.alloc X).alloc Y).alloc Z).alloc (.cells #[.bool na,.slice A n c,.bool nb,.slice B m d] t)) (some ⟨w.heap.size+1+1+1,0,none⟩) 2 2 [⟨na,A,n,c,digits za.natAbs⟩,⟨nb,B,m,d,digits zb.natAbs⟩]:=λX Y Z t=>by
  have:=WL.two (neg:=na) (neg':=nb) (((a1.alloc X).alloc Y).alloc Z) (((T.alloc X).alloc Y).alloc Z) t;simp only[Qa]at this;exact this
 have hW:=Za hW;have C:=Za C;have u:Hid (okW na (digits za.natAbs)=true/\okW nb (digits zb.natAbs)=true):=⟨ha.ok,hb.ok⟩;have a4:=Za ha.sgEq;have a3:=Za hb.sgEq;clear ha hb;go_enter Tryz.func120,Tryz.ntmps120;go_wp2_with fail;refine(Zdt (hW.out _ _ _ _) (by have:=u.out;simp[WE.ok,this])).mono ?_;rintro e w1 ⟨rfl,f⟩;obtain⟨h,a2⟩:=Zcp f;have a7:w.heap.size+1+1+1<w1.heap.size:=by have:=f.size;simp at this;omega
 have y:Below w.heap.size w w1:=(C.out _ _ _ _).trans (f.mono (by simp;omega));have g0:w1.cell? ⟨w.heap.size,0,none⟩=some (.bool na):=by simp[h,go_sem]
 have g1:w1.cell? ⟨w.heap.size,1,none⟩=some (.slice A n c):=by simp[h,go_sem]
 have g2:w1.cell? ⟨w.heap.size+1,0,none⟩=some (.bool nb):=by simp[h,go_sem]
 have g3:w1.cell? ⟨w.heap.size+1,1,none⟩=some (.slice B m d):=by simp[h,go_sem]
 have gf:w1.frozen? ⟨w.heap.size+1,0,none⟩=false:=by simp[a2,go_sem]
 have gB:Blk w1 (w.heap.size+1) 39 #[.bool nb,.slice B m d]:=by
  refine Zd f ((Blk.alloc (Blk.alloc ?_ _) _));have:=Qc (w.alloc (.cells #[.bool na,.slice A n c] 39)) 39 #[.bool nb,.slice B m d];simp only[Qa]at this;exact this
 have g7:Blk w1 (w.heap.size+1+1) 39 #[.bool false,.slice none 0 0]:=by
  refine Zd f (Blk.alloc ?_ _);have:=Qc ((w.alloc (.cells #[.bool na,.slice A n c] 39)).alloc (.cells #[.bool nb,.slice B m d] 39)) 39 #[.bool false,.slice none 0 0];simp only[Qa]at this;exact this
 have U:=a1.below y;have I:=T.below y;have HB:=Za gB;clear gB h a2;have J:w.heap.size<=(w1.setCell ⟨w.heap.size+1,0,none⟩ (.bool (!nb))).heap.size:=by simp;omega
 go_wp2_with fail;refine(Zue _ _ _ _ _ _ _ _ _ _ _ (by exact U.set_box HB.out (NoLimb.box _ _ _ _) _ _) (by exact I.set_box HB.out (NoLimb.box _ _ _ _) _ _) hn hm).mono ?_;rintro e w2 ⟨a0,O,A2,n2,c2,o,rfl,a6⟩;have a5:Below w.heap.size w w2:=(y.setCell (p:=⟨w.heap.size+1,0,none⟩) (by simp) _).trans (a0.mono J);have m7:=Zd a0 (g7.far (by simp) _);have m3:=m7.cell 0;have m4:=m7.cell 1;have m5:=m7.frozen 0;have m6:=m7.frozen 1;simp at m3 m4;have HM:=Za m7;clear m7;go_wp2_with fail
 have HZ:sg na za.natAbs+sg (!nb) zb.natAbs=za-zb:=by
  have h1:=a4.out;have h2:=a3.out;rw[Zi]at h1 h2;rw[Zsc,h1,h2];omega
 refine bodyPost_ret (v:=.tuple #[.agg #[.bool O,.slice A2 n2 c2],.int .i64 o]) (by simp[results,Tryz.results120,go_sem,m3,m4]) rfl ?_;exact ResW.box (HZ▸a6) a5 (by omega) HM.out
theorem Zax(w:World)(t0:TypeId)(c0:Array Value) :
    ∃ W,w.alloc (.cells c0 t0)=W/\Below w.heap.size w W/\Blk W w.heap.size t0 c0/\W.heap.size=w.heap.size+1:=
 ⟨_,rfl,(Qe w.heap.size w).alloc (Qd _) _,Qc _ _ _,by simp⟩
theorem Ztu(x y:Int)(w:World)(hx1:-9223372036854775808<=x)(hx2:x<=9223372036854775807)(h0:0<y)(hy:y<=9223372036854775807) :
    Calls Tryz.prog 69 #[.int .i64 x,.int .i64 y] w (Zgz w (Qg x y)):=by
 obtain⟨W0,o,J,hq,s0⟩:=Zax w 41 #[.bool false,.slice none 0 0,.bool false,.slice none 0 0];replace o:=Za o;replace hq:=Za hq;go_enter Tryz.func69,Tryz.ntmps69;go_wp2_with fail;rw[o.out];clear o;refine(Zbq x W0 hx1 hx2).mono ?_;rintro e w1 ⟨h,na,A,n,c,rfl,hA⟩;have I:Below w.heap.size w w1:=J.trans (h.mono (by omega));have s1:W0.heap.size<=w1.heap.size:=h.size;replace hq:=Za (Zd h hq.out);replace hA:=Za hA;clear h J;go_wp2_with fail;refine(Zbq y w1 (by omega) hy).mono ?_;rintro e w2 ⟨f,nb,B,m,d,rfl,hB⟩;have C:Below w.heap.size w w2:=I.trans (f.mono (by omega));have s2:w1.heap.size<=w2.heap.size:=f.size;replace hq:=Za (Zd f hq.out);replace hA:=Za (hA.out.below f);have hn:nb=false:=by rw[hB.1];simp;omega
 subst hn;replace hB:=Za hB;clear f I;go_wp2_with fail;refine(Zf9 na A B n c m d x y w2 hA.out hB.out h0).mono ?_;rintro e w3 ⟨u,nx,Ax,kx,cx,ny,Ay,ky,cy,rfl,hF⟩;have T:Below w.heap.size w w3:=C.trans (u.mono (by omega));have s3:w2.heap.size<=w3.heap.size:=u.size;replace hq:=Za (Zd u hq.out);obtain⟨a1,V,a5,a4,Y,a0,a2,a3⟩:=hq.out.four;clear u C;replace hF:=Za hF;go_wp2_with fail;obtain⟨W5,O,U,q2,kW,-,s5⟩:=Zaa nx Ax kx cx ny Ay ky cy T (by omega) hq.out;rw[O];obtain⟨r0,r1,r2,r3,-⟩:=q2.four;refine bodyPost_ret (v:=.tuple #[.agg #[.bool nx,.slice Ax kx cx,.bool ny,.slice Ay ky cy],.int .i64 0]) (by simp[results,Tryz.results69,go_sem,r0,r1,r2,r3]) rfl ?_;exact⟨U,_,_,_,_,_,_,_,_,rfl,kW _ _ _ _ _ hF.out.1,kW _ _ _ _ _ hF.out.2⟩
theorem Zhh(na nb na' nb':Bool)(A B A' B':Option Addr)(n c m d n' c' m' d':Nat)(a b:Rat)(w:World)(ha:Fr w na A n c nb B m d a)(hb:Fr w na' A' n' c' nb' B' m' d' b)(hs:(a.num*b.den).natAbs<pw 4096) :
    Calls Tryz.prog 149 #[.agg #[.bool na,.slice A n c,.bool nb,.slice B m d],.agg #[.bool na',.slice A' n' c',.bool nb',.slice B' m' d']] w (NumW w (a.num*b.den)):=by
 obtain⟨W0,f,u,⟨q0,q1,q2⟩,s0⟩:=Zcu w 41 #[.bool na,.slice A n c,.bool nb,.slice B m d] 41 #[.bool na',.slice A' n' c',.bool nb',.slice B' m' d'] 39 #[.bool false,.slice none 0 0];have hA:=Za (ha.1.below u);have hD:=Za (hb.2.below u);replace hs:=Za hs;clear ha hb;obtain⟨J,C,-⟩:=q0.four;obtain⟨-,-,y,O,-⟩:=q1.four;rw[<- f]at J C y O;replace f:=Za f;go_enter Tryz.func149,Tryz.ntmps149;go_wp2_with fail;rw[f.out];clear f J C y O;refine(Zj5 na nb' A B' n c m' d' a.num b.den W0 hA.out hD.out).mono ?_;rintro e w1 ⟨h,np,P,k,q,code,rfl,hR⟩;rcases hR with ⟨-,rfl,hP⟩|⟨I,-⟩
 case inr=>exact absurd I (by have:=hs.out;omega)
 have Y:Below w.heap.size w w1:=u.trans (h.mono (by omega));have s1:W0.heap.size<=w1.heap.size:=h.size;replace q2:=Zd h q2;clear h u q0 q1;replace q2:=Za q2;replace hP:=Za hP;go_wp2_with fail;refine(Zer np P k q w1).mono ?_;rintro e w2 ⟨rfl,o⟩;have U:Below w.heap.size w w2:=Y.trans (o.mono (by omega));have s2:w1.heap.size<=w2.heap.size:=o.size;replace q2:=Zd o q2.out;replace hP:=hP.out.below o;obtain⟨c0,c1,f0,f1⟩:=q2.two;replace q2:=Za q2;replace hP:=Za hP;go_wp2_with fail;obtain⟨W5,T,V,q3,kW,-,s5⟩:=Zbe np P k q U (by omega) q2.out;rw[T];obtain⟨r0,r1,-⟩:=q3.two;refine bodyPost_ret (v:=.agg #[.bool np,.slice P k q]) (by simp[results,Tryz.results149,go_sem,r0,r1]) rfl ?_;exact⟨V,_,_,_,_,rfl,kW _ _ _ _ _ hP.out⟩
theorem Zhz(x:Int)(w:World)(hx1:-9223372036854775808<=x)(hx2:x<=9223372036854775807) :
    Calls Tryz.prog 50 #[.int .i64 x] w (Zd0 w (x:Rat)):=by
 obtain⟨W0,y,u,hq,s0⟩:=Zax w 41 #[.bool false,.slice none 0 0,.bool false,.slice none 0 0];replace hq:=Za hq;go_enter Tryz.func50,Tryz.ntmps50;go_wp2_with fail;refine(Zc6 x W0 hx1 hx2).mono ?_;rintro e w1 ⟨h,na,A,n,c,rfl,hA⟩;have o:Below w.heap.size w w1:=u.trans (h.mono (by omega));have s1:W0.heap.size<=w1.heap.size:=h.size;replace hq:=Za (Zd h hq.out);replace hA:=Za hA;clear h u y;go_wp2_with fail;refine(Zc6 1 w1 (by omega) (by omega)).mono ?_;rintro e w2 ⟨f,nb,B,m,d,rfl,hB⟩;have I:Below w.heap.size w w2:=o.trans (f.mono (by omega));have s2:w1.heap.size<=w2.heap.size:=f.size;replace hq:=Za (Zd f hq.out);replace hA:=Za (hA.out.below f);replace hB:=Za hB;clear f o;obtain⟨V,O,a2,a1,T,U,Y,a0⟩:=hq.out.four;go_wp2_with fail;obtain⟨W5,C,J,q2,kW,-,s5⟩:=Zaa na A n c nb B m d I (by omega) hq.out;rw[C];obtain⟨r0,r1,r2,r3,-⟩:=q2.four;refine bodyPost_ret (v:=.agg #[.bool na,.slice A n c,.bool nb,.slice B m d]) (by simp[results,Tryz.results50,go_sem,r0,r1,r2,r3]) rfl ?_;exact⟨J,_,_,_,_,_,_,_,_,rfl,kW _ _ _ _ _ hA.out,kW _ _ _ _ _ hB.out⟩
theorem OnlyNormal.imp{Q:Exit->Act->World->Prop}(e:Exit)(a:Act)(w:World)(h:OnlyNormal Q e a w):Q e a w:=by
 cases e <;> first|exact h|exact(h:False).elim
theorem Z0{P:Program}{id:Nat}{ops:Array Oper}{Q:Exit->Act->World->Prop}{a:Act}{w:World}(L:List Nat)(S:World->Prop)(hm:P.follows .mixedOrders=true)
    (hS:S w.drew) (h:S w.drew->Zab P .any ops (OnlyNormal Q) L S ops.size (Qh ops.size false) a w.drew):(Code.region id ops true).wp P Q a w:=
 Code.wp_mono OnlyNormal.imp (wp_region_any hm (Zik _ _ _ _ (h hS)))
theorem wp_heldS{P:Program}{id:Nat}{ops:Array Oper}{Q:Exit->Act->World->Prop}{a:Act}{w w0:World}{B:Nat}{S:World->Prop}(L:List Nat)(hm:P.follows .mixedOrders=true)
    (hv:Hid (∀ wx,Below B w0 wx->S wx)) (hb:Below B w0 w.drew) (h:S w.drew->Zab P .any ops (OnlyNormal Q) L S ops.size (Qh ops.size false) a w.drew):(Code.region id ops true).wp P Q a w:=Z0 L S hm (hv.out _ hb) h
theorem Zva{l n:Nat}{P:Program}{id:Nat}{ops:Array Oper}{Q:Exit->Act->World->Prop}{a:Act}{w w0:World}{B:Nat}{S:World->Prop}(L:List Nat)(hm:P.follows .mixedOrders=true)(hnd:Zjr ops=true)
    (hv:Hid (∀ wx,Below B w0 wx->S wx)) (hb:Below B w0 w.drew) (h:S w.drew->Zab P .any ops (OnlyNormal Q) L S ops.size (Qh ops.size false) a w.drew):(Code.region id ops true).wpIn (Fence.wide.inRound l) n P Q a w:=Za5 L S hm hnd (hv.out _ hb) h
theorem Ztq(na nb:Bool)(A B:Option Addr)(n c m d:Nat)(r:Rat)(w:World)(h:Fr w na A n c nb B m d r) :
    Calls Tryz.prog 17 #[.agg #[.bool na,.slice A n c,.bool nb,.slice B m d]] w λe w'=>e=.returned (.int .i64 0)/\Below w.heap.size w w':=by
 have hn:=h.neg;subst hn;have hmx:Tryz.prog.follows .mixedOrders=true:=by kernel_rfl
 have hl:=Zt5 r;have a8:0<m:=by rw[<- h.2.lim.len];exact length_digits_pos.2 (by have:=hl.1;omega)
 have a6:((m:Int) == 0)=false:=by simp;omega
 have hm:=h.2.2.1;obtain⟨W0,V,y,q0,s0⟩:=Zax w 41 #[.bool na,.slice A n c,.bool false,.slice B m d];have hA:=Za (h.below y);clear h;obtain⟨a0,a1,a2,a3,-⟩:=q0.four;replace q0:=Za q0;go_enter Tryz.func17,Tryz.ntmps17;go_wp2_with fail;refine(Zb3 hA.out.1.lim hA.out.1.ok).mono ?_;rintro e w1 ⟨rfl,o⟩;have J:Below w.heap.size w w1:=y.trans (o.mono y.size);replace hA:=Za (hA.out.below o);replace q0:=Za (Zd o q0.out);clear a0 a1 a2 a3 o y V;obtain⟨a0,a1,a2,a3,-⟩:=q0.out.four;go_wp2_with fail;refine(Zb3 hA.out.2.lim hA.out.2.ok).mono ?_;rintro e w2 ⟨rfl,u⟩;have C:Below w.heap.size w w2:=J.trans (u.mono J.size);replace hA:=Za (hA.out.below u);replace q0:=Za (Zd u q0.out);clear a0 a1 a2 a3 u J;obtain⟨a0,a1,a2,a3,-⟩:=q0.out.four;go_wp2_with fail;refine(Zk9 na false A B n c m d r.num r.den w2 hA.out.1 hA.out.2).mono ?_;rw[hl.2];rintro e w3 ⟨U,ng,Ag,kg,cg,code,rfl,hR⟩;have hG:=Za (hR.small (Zc2 4096 |> λh=>by have:pw 0<pw 4096:=Zfm (by decide);rw[Zeb]at this;exact this));have I:Below w.heap.size w w3:=C.trans (U.mono C.size);clear a0 a1 a2 a3 U C q0 hA hR;obtain⟨W4,a7,a5,q4,kW,kB,s4⟩:=Zt 39 #[.bool ng,.slice Ag kg cg] I I.size;replace hG:=Za (kW _ _ _ _ _ hG.out);clear kW kB;obtain⟨g0,g1,-⟩:=q4.two;replace q4:=Za q4;go_wp2_with fail;refine Z0 [] (λW'=>W'.cell? ⟨w3.heap.size,0,none⟩=some (.bool ng)/\W'.cell? ⟨w3.heap.size,1,none⟩=some (.slice Ag kg cg)) hmx ⟨g0,g1⟩ (λ_=>?_);refine Zje 1 [0] rfl (by kernel_rfl) ⟨g0,g1⟩ ?_
 (refine tk1 (v:=?_) rfl (Or.inl ⟨by kernel_rfl,?_⟩) ?_;rotate_left;(· intro W2 hSw;(try dsimp only at hSw);go_simp;try with_reducible rfl);try simp only[Qq,Zgy,Zge,Zgs,putG_a,putG_s,putG_z])
 refine tk0 ?_;refine Ze (i:=1) rfl (by kernel_rfl) (λK hK=>?_);go_simp;refine(Zc6 1 W4.drew (by omega) (by omega)).mono ?_;rintro e w5 ⟨f,n1,A1,k1,c1,rfl,hO⟩;replace f:=Zr f;have T:Below w.heap.size w w5:=a5.trans (f.mono (by show w.heap.size<=W4.heap.size;have:=I.size;omega));replace hG:=Za (hG.out.below f);replace q4:=Za (Zd f q4.out);clear g0 g1;obtain⟨g0,g1,-⟩:=q4.out.two;refine hK.out _ _ (λ_=>⟨g0,g1⟩) ?_;clear hK K
 try simp only[Qq,Zgy,Zge,Zgs]
 refine Ze (i:=2) rfl (by kernel_rfl) (λK hK=>?_);go_simp;refine(Zey ng n1 Ag A1 kg cg k1 c1 _ _ w5 hG.out.lim hO.lim).mono ?_;have Y:Zf4 ng n1 (digits (Int.natAbs ((1:Nat):Int))) (digits (Int.natAbs 1))=true:=by have h1:=hG.out.1;have h2:=hO.1;rw[h1,h2];unfold Zf4;simp[Zej,Zeh]
 rw[Y];rintro e w6 ⟨rfl,O⟩;have a4:Below w.heap.size w w6:=T.trans (O.mono T.size);replace q4:=Za (Zd O q4.out);clear g0 g1;obtain⟨g0,g1,-⟩:=q4.out.two;refine hK.out _ _ (λ_=>⟨g0,g1⟩) ?_;clear hK K
 try simp only[Qq,Zgy,Zge,Zgs]
 refine Zje 1 [3] rfl (by kernel_rfl) ⟨g0,g1⟩ ?_
 (refine tk1 (v:=?_) rfl (Or.inl ⟨by kernel_rfl,?_⟩) ?_;rotate_left;(· intro W2 hSw;(try dsimp only at hSw);go_simp;try with_reducible rfl);try simp only[Qq,Zgy,Zge,Zgs,putG_a,putG_s,putG_z])
 refine tk0 ?_;refine Zj (by kernel_rfl) ?_ _;refine OnlyNormal.normal ?_;go_wp2_with fail;go_ret;exact⟨rfl,a4⟩
