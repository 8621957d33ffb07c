/- The reference of layer 1: DivMod. Reference of frac: -/
import Derived.BigQuiet
import Derived.Deep.QuietTactic
import Derived.Deep.CutBlock
import Derived.Deep.DeepCutAuto
import Derived.Defers
import Derived.Recover
import Derived.Test.YthappeninglakaaGreatZg05
set_option maxRecDepth 100000
set_option maxHeartbeats 2000000
set_option linter.unusedSimpArgs false
set_option linter.unusedVariables false
namespace Go.Proofs.YthappeninglakaaGreat
open Go.RowKit
open World renaming size_alloc→Qa,cell?_setCell_other→Qf
open And renaming intro→Qb
open Blk renaming new→Qc
open Nat renaming le_refl→Qd,lt_of_le_of_lt→Qi,mod_lt→Qj,div_le_self→Qm,lt_trans→Qn,eq_zero_or_pos→Qo,gcd→Qp
open Below renaming refl→Qe
open Rat renaming divInt→Qg
open _root_.Array renaming replicate→Qh
open Int renaming fdiv→Qk,fmod→Ql
attribute [local go_sem] Zg
theorem Zpr(na nb:Bool)(A B:Option Addr)(n c m d:Nat)(za zb:Int)(w:World)(ha:Wd w na A n c za)(hb:Wd w nb B m d zb)(h0:zb≠0)(hy:za.natAbs%zb.natAbs=0) :
    Calls Tryz.prog 76 #[.agg #[.bool na,.slice A n c],.agg #[.bool nb,.slice B m d]] w (Zj0 w za zb):=by
 have d8:=ha.lim;have a3:=hb.lim;have hn:=ha.2.1;have hm:=hb.2.1;have g5:=a3.2.2.1;have i8:=a3.2.1;unfold maxLen at g5;have b7:∀ X Y Z V:Obj,Below w.heap.size w ((((w.alloc X).alloc Y).alloc Z).alloc V):=λX Y Z V=>((((Qe w.heap.size w).alloc (Qd _) _).alloc (by simp) _).alloc (by simp;omega) _).alloc (by simp;omega) _;have b7:=Za b7;have c0:Hid ((okW na (digits za.natAbs) && okW nb (digits zb.natAbs))=true):=by unfold Hid;rw[ha.ok,hb.ok];rfl
 have c7:=ha.sgEq;have c6:=hb.sgEq;rw[Zj]at c7 c6;have hU:=ha.small;have hV:=hb.small;clear ha hb;have a9:0<zb.natAbs:=by omega
 have i6:0<m:=by rw[<- a3.len];exact length_digits_pos.2 a9
 have i1:((m:Int) == 0)=false:=by simp;omega
 obtain⟨b6,c8⟩:=Zh2 na nb za.natAbs zb.natAbs a9 (Or.inl hy);rw[c7,c6]at b6 c8;clear c7 c6 h0;generalize za.natAbs=U at *;generalize zb.natAbs=V at *;have hxs:U/V<pw 4096:=Qi (Qm _ _) hU;have h6:U%V<pw 4096:=Qn (Qj _ a9) hV;have hfin:Hid (∀ (e:Ending) (w':World),(Below w.heap.size w w'/\∃ nq Aq kq cq nr Ar kr cr,e=.returned (.tuple #[.agg #[.bool nq,.slice Aq kq cq],.agg #[.bool nr,.slice Ar kr cr],.int .i64 0])/\Wd w' nq Aq kq cq (Qk za zb)/\Wd w' nr Ar kr cr (Ql za zb))->Zj0 w za zb e w'):=λ_ _ h=>h;generalize Qk za zb=ZQ at *;generalize Ql za zb=ZR at *;have O:sg na (U%V)=ZR:=by rw[c8,hy];simp[sg]
 have T:sg (na != nb) (U/V)=ZQ:=b6.symm;replace O:=Za O;replace T:=Za T;replace hy:=Za hy;clear b6 c8;go_enter Tryz.func76,Tryz.ntmps76;go_wp2_with fail;refine(Zjo ((((d8.alloc _).alloc _).alloc _).alloc _) ((((a3.alloc _).alloc _).alloc _).alloc _) c0.out).mono ?_;rintro e w1 ⟨rfl,a2⟩;obtain⟨a5,h2⟩:=Zdh a2;have j1:w.heap.size+1+1+1<w1.heap.size:=by have:=a2.size;simp at this;omega
 have a8:Below w.heap.size w w1:=(b7.out _ _ _ _).trans (a2.mono (by simp;omega));have g0:w1.cell? ⟨w.heap.size,0,none⟩=some (.bool na):=by simp[a5,go_sem]
 have g1:w1.cell? ⟨w.heap.size,1,none⟩=some (.slice A n c):=by simp[a5,go_sem]
 have g2:w1.cell? ⟨w.heap.size+1,0,none⟩=some (.bool nb):=by simp[a5,go_sem]
 have g3:w1.cell? ⟨w.heap.size+1,1,none⟩=some (.slice B m d):=by simp[a5,go_sem]
 have bq:Hid (Blk w1 (w.heap.size+1+1) 39 #[.bool false,.slice none 0 0]):=by
  refine Zc a2 (Blk.alloc ?_ _);have:=Qc ((w.alloc (.cells #[.bool na,.slice A n c] 39)).alloc (.cells #[.bool nb,.slice B m d] 39)) 39 #[.bool false,.slice none 0 0];simp only[Qa]at this;exact this
 have br:Hid (Blk w1 (w.heap.size+1+1+1) 39 #[.bool false,.slice none 0 0]):=by
  refine Zc a2 ?_;have:=Qc (((w.alloc (.cells #[.bool na,.slice A n c] 39)).alloc (.cells #[.bool nb,.slice B m d] 39)).alloc (.cells #[.bool false,.slice none 0 0] 39)) 39 #[.bool false,.slice none 0 0];simp only[Qa]at this;exact this
 have d5:=d8.below a8;have d7:=a3.below a8;clear a5 h2;go_wp2_with fail;refine(Zjn _ _ _ _ _ _ U V _ d5 d7 (by omega) a9).mono ?_;rintro e w2 ⟨A2,n2,c2,B2,m2,d2,rfl,d6,a1,C⟩;have d9:Below w.heap.size w w2:=a8.trans (C.mono a8.size);have d3:=a1.2.2.1;have i3:=a1.2.1;unfold maxLen at d3;have i9:n2<=4096:=by rw[<- d6.len];exact(Zs _ _).2 hxs
 have i2:m2<=4096:=by rw[<- a1.len];exact(Zs _ _).2 h6
 have h9:=Zb C g0;have e8:=Zb C g1;have h3:=Zb C g2;have e6:=Zb C g3;have f3:Hid (Blk _ _ _ _):=Zc C bq.out;have f0:Hid (Blk _ _ _ _):=Zc C br.out
 have e9:m2=0:=by
  rcases Qo m2 with h|h;exact h;rw[<- a1.len]at h;have:=length_digits_pos.1 h;have:=hy.out;omega
 subst e9;go_wp2_with fail;refine(Zcb _ _ _ _ _ _ d6 (by omega)).mono ?_;rintro e w3 ⟨u,f,A3,n3,c3,c5,rfl,c1⟩;have e2:Below w.heap.size w w3:=d9.trans (u.mono d9.size);have e0:=Zb u h9;have h5:=Zb u e8;have c9:=Zb u h3;have f9:=Zb u e6;have f4:Hid (Blk _ _ _ _):=Zc u f3.out;have g9:Hid (Blk _ _ _ _):=Zc u f0.out;change ResP w3 (sg (na != nb) _) f A3 n3 c3 c5 at c1;rw[Zj,T.out]at c1;rcases c1 with ⟨-,rfl,e7⟩|⟨a4,-⟩
 case inr =>
  exfalso;have h1:=T.out;rw[<- h1,Zab]at a4;omega
 have b0:Below w3.heap.size w3 (w3.alloc (.cells #[.bool f,.slice A3 n3 c3] 39)):=(Qe _ _).alloc (Qd _) _;have bp:=Qc w3 39 #[.bool f,.slice A3 n3 c3];have j0:w.heap.size+1+1+1<w3.heap.size:=by have:=C.size;have:=u.size;omega
 have f7:=Zb b0 e0;have g6:=Zb b0 c9;go_wp2_with fail;refine(Zcb _ _ _ _ _ _ ((a1.below u).below b0) (by omega)).mono ?_;rintro e w4 ⟨a6,I,A4,n4,c4,h8,rfl,e1⟩;have y:Below w3.heap.size w3 w4:=b0.trans (a6.mono (by simp));have h7:=Za (Zc a6 bp);have i0:w3.heap.size<w4.heap.size:=by have:=a6.size;simp at this;omega
 have d4:Below w.heap.size w w4:=e2.trans (y.mono e2.size);have e5:=Zb y e0;have f8:=Zb y h5;have g4:=Zb y c9;have e4:=Zb y f9;have g7:Hid (Blk _ _ _ _):=Zc y f4.out;have f6:Hid (Blk _ _ _ _):=Zc y g9.out;rw[Zj,O.out]at e1;rcases e1 with ⟨-,rfl,h4⟩|⟨a4,-⟩
 case inr =>
  exfalso;have h1:=O.out;rw[<- h1,Zab]at a4;omega
 have e3:=e7.below y;have o:Below w4.heap.size w4 (w4.alloc (.cells #[.bool I,.slice A4 n4 c4] 39)):=(Qe _ _).alloc (Qd _) _;have bs:=Qc w4 39 #[.bool I,.slice A4 n4 c4];have a7:=Za (Zc o h7.out);have f5:=d4.trans (o.mono d4.size);have p0:=a7.out.cell 0;have p1:=a7.out.cell 1;have p2:=a7.out.frozen 0;have p3:=a7.out.frozen 1;simp at p0 p1;replace bs:=Za bs;clear f7 g6;have j2:=Zb o e5;have i7:=Zb o f8;have i4:=Zb o g4;have i5:=Zb o e4;have J:Hid (Blk _ _ _ _):=Zc o g7.out;have a0:Hid (Blk _ _ _ _):=Zc o f6.out;have b9:=e3.below o;have b8:=h4.below o;go_wp2_with fail;generalize hw5:w4.alloc _=w5 at *;have d0:w5.heap.size=w4.heap.size+1:=by rw[<- hw5];simp
 replace d0:=Za d0;clear hw5;have s0:=bs.out.cell 0;have s1:=bs.out.cell 1;have s2:=bs.out.frozen 0;have s3:=bs.out.frozen 1;simp at s0 s1;have q1:=J.out.cell 0;have q2:=J.out.cell 1;have q3:=J.out.frozen 0;have q4:=J.out.frozen 1;have r1:=a0.out.cell 0;have r2:=a0.out.cell 1;have r3:=a0.out.frozen 0;have r4:=a0.out.frozen 1;simp at q1 q2 r1 r2
 go_region
 go_wp2
 generalize hw9:((((w5.setCell ⟨w.heap.size+1+1,0,none⟩ (.bool f)).setCell ⟨w.heap.size+1+1,1,none⟩ (.slice A3 n3 c3)).setCell ⟨w.heap.size+1+1+1,0,none⟩ (.bool I)).setCell ⟨w.heap.size+1+1+1,1,none⟩ (.slice A4 n4 c4)).drew=w9;have b1:=(J.out.set_ 0 (.bool f)).set_ 1 (.slice A3 n3 c3);have b2:=(a0.out.far (p:=⟨w.heap.size+1+1,0,none⟩) (by simp <;> omega) (.bool f)).far (p:=⟨w.heap.size+1+1,1,none⟩) (by simp <;> omega) (.slice A3 n3 c3);have b3:Blk w9 (w.heap.size+1+1) 39 #[.bool f,.slice A3 n3 c3]:=by rw[<- hw9];exact(b1.far (by simp <;> omega) _).far (by simp <;> omega) _
 have b4:Blk w9 (w.heap.size+1+1+1) 39 #[.bool I,.slice A4 n4 c4]:=by rw[<- hw9];exact(b2.set_ 0 _).set_ 1 _
 have g8:Below w.heap.size w w9:=by rw[<- hw9];exact Zf ((((f5.setCell (p:=⟨w.heap.size+1+1,0,none⟩) (by simp <;> omega) _).setCell (p:=⟨w.heap.size+1+1,1,none⟩) (by simp <;> omega) _).setCell (p:=⟨w.heap.size+1+1+1,0,none⟩) (by simp <;> omega) _).setCell (p:=⟨w.heap.size+1+1+1,1,none⟩) (by simp <;> omega) _) 1
 have b5:∀ (A:Option Addr) (n c:Nat) (l:List Nat),Lim w5 A n c l->Lim w9 A n c l:=λA n c l h=>by
  rw[<- hw9];exact Lim.set_box (Lim.set_box (Lim.set_box (Lim.set_box h J.out (NoLimb.box _ _ _ _) 0 _) (J.out.set_ 0 _) (NoLimb.box _ _ _ _) 1 _) b2 (NoLimb.box _ _ _ _) 0 _) (b2.set_ 0 _) (NoLimb.box _ _ _ _) 1 _
 have t1:=b3.cell 0;have t2:=b3.cell 1;have t3:=b4.cell 0;have t4:=b4.cell 1;simp at t1 t2 t3 t4;refine bodyPost_ret (v:=.tuple #[.agg #[.bool f,.slice A3 n3 c3],.agg #[.bool I,.slice A4 n4 c4],.int .i64 0]) (by simp[results,Tryz.results76,go_sem,t1,t2,t3,t4]) rfl ?_;exact hfin.out _ _ ⟨g8,_,_,_,_,_,_,_,_,rfl,⟨b9.1,b9.2.1,b5 _ _ _ _ b9.2.2⟩,⟨b8.1,b8.2.1,b5 _ _ _ _ b8.2.2⟩⟩
theorem Zpg(na nb:Bool)(A B:Option Addr)(n c m d:Nat)(za zb:Int)(w:World)(ha:Wd w na A n c za)(hb:Wd w nb B m d zb)(h0:zb≠0)(hy:0<za.natAbs%zb.natAbs)(hs:na=nb) :
    Calls Tryz.prog 76 #[.agg #[.bool na,.slice A n c],.agg #[.bool nb,.slice B m d]] w (Zj0 w za zb):=by
 have d7:=ha.lim;have a3:=hb.lim;have hn:=ha.2.1;have hm:=hb.2.1;have g4:=a3.2.2.1;have i9:=a3.2.1;unfold maxLen at g4;have b7:∀ X Y Z V:Obj,Below w.heap.size w ((((w.alloc X).alloc Y).alloc Z).alloc V):=λX Y Z V=>((((Qe w.heap.size w).alloc (Qd _) _).alloc (by simp) _).alloc (by simp;omega) _).alloc (by simp;omega) _;have b7:=Za b7;have c0:Hid ((okW na (digits za.natAbs) && okW nb (digits zb.natAbs))=true):=by unfold Hid;rw[ha.ok,hb.ok];rfl
 have c5:=ha.sgEq;have c1:=hb.sgEq;rw[Zj]at c5 c1;have hU:=ha.small;have hV:=hb.small;clear ha hb;have a9:0<zb.natAbs:=by omega
 have i7:0<m:=by rw[<- a3.len];exact length_digits_pos.2 a9
 have i1:((m:Int) == 0)=false:=by simp;omega
 obtain⟨b6,c6⟩:=Zh2 na nb za.natAbs zb.natAbs a9 (Or.inr hs);rw[c5,c1]at b6 c6;clear c5 c1 h0;generalize za.natAbs=U at *;generalize zb.natAbs=V at *;have hxs:U/V<pw 4096:=Qi (Qm _ _) hU;have h5:U%V<pw 4096:=Qn (Qj _ a9) hV;have hfin:Hid (∀ (e:Ending) (w':World),(Below w.heap.size w w'/\∃ nq Aq kq cq nr Ar kr cr,e=.returned (.tuple #[.agg #[.bool nq,.slice Aq kq cq],.agg #[.bool nr,.slice Ar kr cr],.int .i64 0])/\Wd w' nq Aq kq cq (Qk za zb)/\Wd w' nr Ar kr cr (Ql za zb))->Zj0 w za zb e w'):=λ_ _ h=>h;generalize Qk za zb=ZQ at *;generalize Ql za zb=ZR at *;subst hs;have e7:(na != na)=false:=by simp
 have O:sg na (U%V)=ZR:=c6.symm;have T:sg false (U/V)=ZQ:=by rw[b6,e7]
 replace O:=Za O;replace T:=Za T;clear b6 c6;go_enter Tryz.func76,Tryz.ntmps76;go_wp2_with fail;refine(Zjo ((((d7.alloc _).alloc _).alloc _).alloc _) ((((a3.alloc _).alloc _).alloc _).alloc _) c0.out).mono ?_;rintro e w1 ⟨rfl,a2⟩;obtain⟨a5,g9⟩:=Zdh a2;have j2:w.heap.size+1+1+1<w1.heap.size:=by have:=a2.size;simp at this;omega
 have a8:Below w.heap.size w w1:=(b7.out _ _ _ _).trans (a2.mono (by simp;omega));have g0:w1.cell? ⟨w.heap.size,0,none⟩=some (.bool na):=by simp[a5,go_sem]
 have g1:w1.cell? ⟨w.heap.size,1,none⟩=some (.slice A n c):=by simp[a5,go_sem]
 have g2:w1.cell? ⟨w.heap.size+1,0,none⟩=some (.bool na):=by simp[a5,go_sem]
 have g3:w1.cell? ⟨w.heap.size+1,1,none⟩=some (.slice B m d):=by simp[a5,go_sem]
 have bq:Hid (Blk w1 (w.heap.size+1+1) 39 #[.bool false,.slice none 0 0]):=by
  refine Zc a2 (Blk.alloc ?_ _);have:=Qc ((w.alloc (.cells #[.bool na,.slice A n c] 39)).alloc (.cells #[.bool na,.slice B m d] 39)) 39 #[.bool false,.slice none 0 0];simp only[Qa]at this;exact this
 have br:Hid (Blk w1 (w.heap.size+1+1+1) 39 #[.bool false,.slice none 0 0]):=by
  refine Zc a2 ?_;have:=Qc (((w.alloc (.cells #[.bool na,.slice A n c] 39)).alloc (.cells #[.bool na,.slice B m d] 39)).alloc (.cells #[.bool false,.slice none 0 0] 39)) 39 #[.bool false,.slice none 0 0];simp only[Qa]at this;exact this
 have d3:=d7.below a8;have d5:=a3.below a8;clear a5 g9;go_wp2_with fail;refine(Zjn _ _ _ _ _ _ U V _ d3 d5 (by omega) a9).mono ?_;rintro e w2 ⟨A2,n2,c2,B2,m2,d2,rfl,d4,a1,C⟩;have d8:Below w.heap.size w w2:=a8.trans (C.mono a8.size);have c9:=a1.2.2.1;have i3:=a1.2.1;unfold maxLen at c9;have j0:n2<=4096:=by rw[<- d4.len];exact(Zs _ _).2 hxs
 have i2:m2<=4096:=by rw[<- a1.len];exact(Zs _ _).2 h5
 have h9:=Zb C g0;have e8:=Zb C g1;have h2:=Zb C g2;have e5:=Zb C g3;have f0:Hid (Blk _ _ _ _):=Zc C bq.out;have e9:Hid (Blk _ _ _ _):=Zc C br.out;have i5:0<m2:=by rw[<- a1.len];exact length_digits_pos.2 hy
 go_wp2_with fail;refine(Zcb _ _ _ _ _ _ d4 (by omega)).mono ?_;rintro e w3 ⟨u,f,A3,n3,c3,h6,rfl,d6⟩;have e1:Below w.heap.size w w3:=d8.trans (u.mono d8.size);have d9:=Zb u h9;have h4:=Zb u e8;have c7:=Zb u h2;have f8:=Zb u e5;have f3:Hid (Blk _ _ _ _):=Zc u f0.out;have g8:Hid (Blk _ _ _ _):=Zc u e9.out;rw[Zj,T.out]at d6;rcases d6 with ⟨-,rfl,e6⟩|⟨a4,-⟩
 case inr =>
  exfalso;have h1:=T.out;rw[<- h1,Zab]at a4;omega
 have b0:Below w3.heap.size w3 (w3.alloc (.cells #[.bool f,.slice A3 n3 c3] 39)):=(Qe _ _).alloc (Qd _) _;have bp:=Qc w3 39 #[.bool f,.slice A3 n3 c3];have j1:w.heap.size+1+1+1<w3.heap.size:=by have:=C.size;have:=u.size;omega
 have f6:=Zb b0 d9;have g5:=Zb b0 c7;go_wp2_with fail;refine(Zcb _ _ _ _ _ _ ((a1.below u).below b0) (by omega)).mono ?_;rintro e w4 ⟨a6,I,A4,n4,c4,h8,rfl,e0⟩;have y:Below w3.heap.size w3 w4:=b0.trans (a6.mono (by simp));have h7:=Za (Zc a6 bp);have i0:w3.heap.size<w4.heap.size:=by have:=a6.size;simp at this;omega
 have d0:Below w.heap.size w w4:=e1.trans (y.mono e1.size);have e4:=Zb y d9;have f7:=Zb y h4;have f9:=Zb y c7;have e3:=Zb y f8;have g6:Hid (Blk _ _ _ _):=Zc y f3.out;have f5:Hid (Blk _ _ _ _):=Zc y g8.out;rw[Zj,O.out]at e0;rcases e0 with ⟨-,rfl,h3⟩|⟨a4,-⟩
 case inr =>
  exfalso;have h1:=O.out;rw[<- h1,Zab]at a4;omega
 have e2:=e6.below y;have o:Below w4.heap.size w4 (w4.alloc (.cells #[.bool I,.slice A4 n4 c4] 39)):=(Qe _ _).alloc (Qd _) _;have bs:=Qc w4 39 #[.bool I,.slice A4 n4 c4];have a7:=Za (Zc o h7.out);have f4:=d0.trans (o.mono d0.size);have p0:=a7.out.cell 0;have p1:=a7.out.cell 1;have p2:=a7.out.frozen 0;have p3:=a7.out.frozen 1;simp at p0 p1;replace bs:=Za bs;clear f6 g5;have j3:=Zb o e4;have i8:=Zb o f7;have i4:=Zb o f9;have i6:=Zb o e3;have J:Hid (Blk _ _ _ _):=Zc o g6.out;have a0:Hid (Blk _ _ _ _):=Zc o f5.out;have b9:=e2.below o;have b8:=h3.below o;go_wp2_with fail;generalize hw5:w4.alloc _=w5 at *;have c8:w5.heap.size=w4.heap.size+1:=by rw[<- hw5];simp
 replace c8:=Za c8;clear hw5;have s0:=bs.out.cell 0;have s1:=bs.out.cell 1;have s2:=bs.out.frozen 0;have s3:=bs.out.frozen 1;simp at s0 s1;have q1:=J.out.cell 0;have q2:=J.out.cell 1;have q3:=J.out.frozen 0;have q4:=J.out.frozen 1;have r1:=a0.out.cell 0;have r2:=a0.out.cell 1;have r3:=a0.out.frozen 0;have r4:=a0.out.frozen 1;simp at q1 q2 r1 r2
 go_region
 go_wp2
 generalize hw9:((((w5.setCell ⟨w.heap.size+1+1,0,none⟩ (.bool f)).setCell ⟨w.heap.size+1+1,1,none⟩ (.slice A3 n3 c3)).setCell ⟨w.heap.size+1+1+1,0,none⟩ (.bool I)).setCell ⟨w.heap.size+1+1+1,1,none⟩ (.slice A4 n4 c4)).drew=w9;have b1:=(J.out.set_ 0 (.bool f)).set_ 1 (.slice A3 n3 c3);have b2:=(a0.out.far (p:=⟨w.heap.size+1+1,0,none⟩) (by simp <;> omega) (.bool f)).far (p:=⟨w.heap.size+1+1,1,none⟩) (by simp <;> omega) (.slice A3 n3 c3);have b3:Blk w9 (w.heap.size+1+1) 39 #[.bool f,.slice A3 n3 c3]:=by rw[<- hw9];exact(b1.far (by simp <;> omega) _).far (by simp <;> omega) _
 have b4:Blk w9 (w.heap.size+1+1+1) 39 #[.bool I,.slice A4 n4 c4]:=by rw[<- hw9];exact(b2.set_ 0 _).set_ 1 _
 have g7:Below w.heap.size w w9:=by rw[<- hw9];exact Zf ((((f4.setCell (p:=⟨w.heap.size+1+1,0,none⟩) (by simp <;> omega) _).setCell (p:=⟨w.heap.size+1+1,1,none⟩) (by simp <;> omega) _).setCell (p:=⟨w.heap.size+1+1+1,0,none⟩) (by simp <;> omega) _).setCell (p:=⟨w.heap.size+1+1+1,1,none⟩) (by simp <;> omega) _) 1
 have b5:∀ (A:Option Addr) (n c:Nat) (l:List Nat),Lim w5 A n c l->Lim w9 A n c l:=λA n c l h=>by
  rw[<- hw9];exact Lim.set_box (Lim.set_box (Lim.set_box (Lim.set_box h J.out (NoLimb.box _ _ _ _) 0 _) (J.out.set_ 0 _) (NoLimb.box _ _ _ _) 1 _) b2 (NoLimb.box _ _ _ _) 0 _) (b2.set_ 0 _) (NoLimb.box _ _ _ _) 1 _
 have t1:=b3.cell 0;have t2:=b3.cell 1;have t3:=b4.cell 0;have t4:=b4.cell 1;simp at t1 t2 t3 t4;refine bodyPost_ret (v:=.tuple #[.agg #[.bool f,.slice A3 n3 c3],.agg #[.bool I,.slice A4 n4 c4],.int .i64 0]) (by simp[results,Tryz.results76,go_sem,t1,t2,t3,t4]) rfl ?_;exact hfin.out _ _ ⟨g7,_,_,_,_,_,_,_,_,rfl,⟨b9.1,b9.2.1,b5 _ _ _ _ b9.2.2⟩,⟨b8.1,b8.2.1,b5 _ _ _ _ b8.2.2⟩⟩
theorem Znw(na nb:Bool)(A B:Option Addr)(n c m d:Nat)(za zb:Int)(w:World)(ha:Wd w na A n c za)(hb:Wd w nb B m d zb)(h0:zb≠0)(hy:0<za.natAbs%zb.natAbs)(hs:na≠nb) :
    Calls Tryz.prog 76 #[.agg #[.bool na,.slice A n c],.agg #[.bool nb,.slice B m d]] w (Zj0 w za zb):=by
 have i1:=ha.lim;have a7:=hb.lim;have hn:=ha.2.1;have hm:=hb.2.1;have l7:=a7.2.2.1;have q0:=a7.2.1;unfold maxLen at l7;have f0:∀ X Y Z V:Obj,Below w.heap.size w ((((w.alloc X).alloc Y).alloc Z).alloc V):=λX Y Z V=>((((Qe w.heap.size w).alloc (Qd _) _).alloc (by simp) _).alloc (by simp;omega) _).alloc (by simp;omega) _;have f0:=Za f0;have f4:Hid ((okW na (digits za.natAbs) && okW nb (digits zb.natAbs))=true):=by unfold Hid;rw[ha.ok,hb.ok];rfl
 have f5:=ha.sgEq;have a9:=hb.sgEq;rw[Zj]at f5 a9;have hU:=ha.small;have hV:=hb.small;clear ha hb;have a8:0<zb.natAbs:=by omega
 have p9:0<m:=by rw[<- a7.len];exact length_digits_pos.2 a8
 have o7:((m:Int) == 0)=false:=by simp;omega
 obtain⟨c8,e5⟩:=Zob na nb za.natAbs zb.natAbs a8 hy hs;rw[f5,a9]at c8 e5;clear f5 h0;replace a9:=Za a9;generalize za.natAbs=U at *;generalize zb.natAbs=V at *;have hxs:U/V<pw 4096:=Qi (Qm _ _) hU;have m8:U%V<pw 4096:=Qn (Qj _ a8) hV
 have i6:(sg (na != nb) (U/V+1)).natAbs<pw 4096:=by
  rw[Zab];have h1:=Nat.div_add_mod U V;have h2:=Qj U a8;rcases Nat.lt_or_ge 1 V with h|h
  ·have:U/V+U/V<=V*(U/V):=by rw[<- Nat.two_mul];exact Nat.mul_le_mul_right _ h
   omega
  omega
 have j0:(sg nb (V-U%V)).natAbs<pw 4096:=by rw[Zab];omega
 rw[<- c8]at i6;rw[<- e5]at j0;have hfin:Hid (∀ (e:Ending) (w':World),(Below w.heap.size w w'/\∃ nq Aq kq cq nr Ar kr cr,e=.returned (.tuple #[.agg #[.bool nq,.slice Aq kq cq],.agg #[.bool nr,.slice Ar kr cr],.int .i64 0])/\Wd w' nq Aq kq cq (Qk za zb)/\Wd w' nr Ar kr cr (Ql za zb))->Zj0 w za zb e w'):=λ_ _ h=>h;generalize Qk za zb=ZQ at *;generalize Ql za zb=ZR at *;have c0:(na != nb)=true:=by simpa using hs
 have p5:(na == nb)=false:=by simpa using hs
 have l2:Hid (sg true (U/V)+-1=ZQ):=by unfold Hid;rw[c8,c0];simp only[sg,if_true];omega
 have n0:Hid (sg na (U%V)+zb=ZR):=by
  unfold Hid;rw[e5,<- a9.out];have:=Qj U a8;cases na <;> cases nb <;> simp[sg]at hs ⊢ <;> omega
 replace c0:=Za c0;clear c8 e5;go_enter Tryz.func76,Tryz.ntmps76;go_wp2_with fail;refine(Zjo ((((i1.alloc _).alloc _).alloc _).alloc _) ((((a7.alloc _).alloc _).alloc _).alloc _) f4.out).mono ?_;rintro e w1 ⟨rfl,b6⟩;obtain⟨c1,m4⟩:=Zdh b6;have q7:w.heap.size+1+1+1<w1.heap.size:=by have:=b6.size;simp at this;omega
 have d5:Below w.heap.size w w1:=(f0.out _ _ _ _).trans (b6.mono (by simp;omega));have g0:w1.cell? ⟨w.heap.size,0,none⟩=some (.bool na):=by simp[c1,go_sem]
 have g1:w1.cell? ⟨w.heap.size,1,none⟩=some (.slice A n c):=by simp[c1,go_sem]
 have g2:w1.cell? ⟨w.heap.size+1,0,none⟩=some (.bool nb):=by simp[c1,go_sem]
 have g3:w1.cell? ⟨w.heap.size+1,1,none⟩=some (.slice B m d):=by simp[c1,go_sem]
 have bq:Hid (Blk w1 (w.heap.size+1+1) 39 #[.bool false,.slice none 0 0]):=by
  refine Zc b6 (Blk.alloc ?_ _);have:=Qc ((w.alloc (.cells #[.bool na,.slice A n c] 39)).alloc (.cells #[.bool nb,.slice B m d] 39)) 39 #[.bool false,.slice none 0 0];simp only[Qa]at this;exact this
 have br:Hid (Blk w1 (w.heap.size+1+1+1) 39 #[.bool false,.slice none 0 0]):=by
  refine Zc b6 ?_;have:=Qc (((w.alloc (.cells #[.bool na,.slice A n c] 39)).alloc (.cells #[.bool nb,.slice B m d] 39)).alloc (.cells #[.bool false,.slice none 0 0] 39)) 39 #[.bool false,.slice none 0 0];simp only[Qa]at this;exact this
 have h6:=i1.below d5;have h8:=a7.below d5;clear c1 m4;go_wp2_with fail;refine(Zjn _ _ _ _ _ _ U V _ h6 h8 (by omega) a8).mono ?_;rintro e w2 ⟨A2,n2,c2,B2,m2,d2,rfl,h7,b5,a3⟩;have i3:Below w.heap.size w w2:=d5.trans (a3.mono d5.size);have g7:=b5.2.2.1;have p4:=b5.2.1;unfold maxLen at g7;have q5:n2<=4096:=by rw[<- h7.len];exact(Zs _ _).2 hxs
 have o8:m2<=4096:=by rw[<- b5.len];exact(Zs _ _).2 m8
 have o5:=Zb a3 g0;have j9:=Zb a3 g1;have m5:=Zb a3 g2;have j7:=Zb a3 g3;have k1:Hid (Blk _ _ _ _):=Zc a3 bq.out;have k0:Hid (Blk _ _ _ _):=Zc a3 br.out;have p6:0<m2:=by rw[<- b5.len];exact length_digits_pos.2 hy
 go_wp2_with fail;refine(Zcb _ _ _ _ _ _ h7 (by omega)).mono ?_;rintro e w3 ⟨T,e6,A3,n3,c3,m9,rfl,i0⟩;have i7:Below w.heap.size w w3:=i3.trans (T.mono i3.size);have i4:=Zb T o5;have m7:=Zb T j9;have f7:=Zb T m5;have l5:=Zb T j7;have k4:Hid (Blk _ _ _ _):=Zc T k1.out;have m3:Hid (Blk _ _ _ _):=Zc T k0.out;rw[Zj]at i0;rcases i0 with ⟨-,rfl,j8⟩|⟨a2,-⟩
 case inr =>
  exfalso;rw[Zab]at a2;omega
 have e4:Below w3.heap.size w3 (w3.alloc (.cells #[.bool e6,.slice A3 n3 c3] 39)):=(Qe _ _).alloc (Qd _) _;have bp:=Qc w3 39 #[.bool e6,.slice A3 n3 c3];have q6:w.heap.size+1+1+1<w3.heap.size:=by have:=a3.size;have:=T.size;omega
 have l3:=Zb e4 i4;have l8:=Zb e4 f7;go_wp2_with fail;refine(Zcb _ _ _ _ _ _ ((b5.below T).below e4) (by omega)).mono ?_;rintro e w4 ⟨c5,a5,A4,n4,c4,o4,rfl,i5⟩;have a1:Below w3.heap.size w3 w4:=e4.trans (c5.mono (by simp));have n5:=Za (Zc c5 bp);have o6:w3.heap.size<w4.heap.size:=by have:=c5.size;simp at this;omega
 have g9:Below w.heap.size w w4:=i7.trans (a1.mono i7.size);have j6:=Zb a1 i4;have l4:=Zb a1 m7;have l6:=Zb a1 f7;have j5:=Zb a1 l5;have l9:Hid (Blk _ _ _ _):=Zc a1 k4.out;have l1:Hid (Blk _ _ _ _):=Zc a1 m3.out;rw[Zj]at i5;rcases i5 with ⟨-,rfl,m6⟩|⟨a2,-⟩
 case inr =>
  exfalso;rw[Zab]at a2;omega
 have j4:=j8.below a1;have C:Below w4.heap.size w4 (w4.alloc (.cells #[.bool a5,.slice A4 n4 c4] 39)):=(Qe _ _).alloc (Qd _) _;have bs:=Qc w4 39 #[.bool a5,.slice A4 n4 c4];have b8:=Za (Zc C n5.out);have f3:=g9.trans (C.mono g9.size);have p0:=b8.out.cell 0;have p1:=b8.out.cell 1;have p2:=b8.out.frozen 0;have p3:=b8.out.frozen 1;simp at p0 p1;replace bs:=Za bs;clear l3 l8;have o3:=Zb C j6;have k7:=Zb C l4;have g5:=Zb C l6;have h3:=Zb C j5;have k2:Hid (Blk _ _ _ _):=Zc C l9.out;have j3:Hid (Blk _ _ _ _):=Zc C l1.out;have k9:=j4.below C;have k8:=m6.below C;go_wp2_with fail;generalize hw5:w4.alloc _=w5 at *;have f8:w5.heap.size=w4.heap.size+1:=by rw[<- hw5];simp
 replace f8:=Za f8;clear hw5;have s0:=bs.out.cell 0;have s1:=bs.out.cell 1;have s2:=bs.out.frozen 0;have s3:=bs.out.frozen 1;simp at s0 s1
 go_region_with (first
  | (go_at_call 32;refine(Zf0 (-1) _ (by omega) (by omega)).mono ?_;rintro e w6 ⟨k6,o9,A6,n6,c6,rfl,d0⟩;have u:=Zv k6;have u0:=Zb u p0;have u1:=Zb u p1;have u2:=Zn u p0 p2;have u3:=Zn u p1 p3;have e3:=k9.below u)
  | (go_at_call 124;refine(Zrb _ _ _ _ _ _ _ _ _ _ _ e3.lim d0.lim e3.2.1 d0.2.1).mono ?_;rintro e w7 ⟨b0,f,A7,n7,c7,o0,rfl,f9⟩;have v0:=Zb b0 u0;have v1:=Zb b0 u1;have v2:=Zn b0 u0 u2;have v3:=Zn b0 u1 u3))
 all_goals
  have e1:=e3.sgEq;have e2:=d0.sgEq;rw[Zj]at e1 e2;rw[e1,e2,l2.out]at f9;rcases f9 with ⟨-,rfl,e0⟩|⟨a2,-⟩
  case inr=>exact absurd i6 (by omega)
  clear e1 e2 e3 d0;have o:Below w5.heap.size w5 w7:=u.trans (b0.mono u.size);have h9:Hid (Blk _ _ _ _):=Zc o k2.out;have j2:Hid (Blk _ _ _ _):=Zc o j3.out;have d9:Hid (Blk _ _ _ _):=Zc o b8.out;have h4:Hid (Blk _ _ _ _):=Zc o bs.out;have g4:=Zb o g5;have i2:=Zb o h3;have d4:=k8.below o;have i8:=((a7.below f3)).below o;have k3:=f3.trans (o.mono f3.size);clear u0 u1 u2 u3 s0 s1 s2 s3 p0 p1 p2 p3 o3 k7 g5 h3
  go_upto_region 10 with fail
  generalize hw8:(w7.setCell ⟨w3.heap.size,0,none⟩ (.bool f)).setCell ⟨w3.heap.size,1,none⟩ (.slice A7 n7 c7)=w8;have o1:Hid (Blk w8 (w.heap.size+1+1) 39 #[.bool false,.slice none 0 0]):=by rw[<- hw8];exact(h9.out.far (by simp <;> omega) _).far (by simp <;> omega) _
  have l0:Hid (Blk w8 (w.heap.size+1+1+1) 39 #[.bool false,.slice none 0 0]):=by rw[<- hw8];exact(j2.out.far (by simp <;> omega) _).far (by simp <;> omega) _
  have o2:Hid (Blk w8 w3.heap.size 39 #[.bool f,.slice A7 n7 c7]):=by rw[<- hw8];exact(d9.out.set_ 0 _).set_ 1 _
  have d3:Hid (Blk w8 w4.heap.size 39 #[.bool a5,.slice A4 n4 c4]):=by rw[<- hw8];exact(h4.out.far (by simp <;> omega) _).far (by simp <;> omega) _
  have p7:w8.cell? ⟨w.heap.size+1,0,none⟩=some (.bool nb):=by rw[<- hw8];exact(Qf _ _ _ _ (by simp <;> omega)).trans ((Qf _ _ _ _ (by simp <;> omega)).trans g4)
  have q8:w8.cell? ⟨w.heap.size+1,1,none⟩=some (.slice B m d):=by rw[<- hw8];exact(Qf _ _ _ _ (by simp <;> omega)).trans ((Qf _ _ _ _ (by simp <;> omega)).trans i2)
  have J:∀ (A:Option Addr) (n c:Nat) (l:List Nat),Lim w7 A n c l->Lim w8 A n c l:=λA n c l h=>by
   rw[<- hw8];exact Lim.set_box (Lim.set_box h d9.out (NoLimb.box _ _ _ _) 0 _) (d9.out.set_ 0 _) (NoLimb.box _ _ _ _) 1 _
  have f6:Wd w8 f A7 n7 c7 ZQ:=⟨e0.1,e0.2.1,J _ _ _ _ e0.2.2⟩;have d8:Wd w8 a5 A4 n4 c4 (sg na (U%V)):=⟨d4.1,d4.2.1,J _ _ _ _ d4.2.2⟩;have j1:=J _ _ _ _ i8;have i9:Below w.heap.size w w8:=by rw[<- hw8];exact(k3.setCell (p:=⟨w3.heap.size,0,none⟩) (by simp only[];omega) _).setCell (p:=⟨w3.heap.size,1,none⟩) (by simp only[];omega) _
  have p8:Hid (w4.heap.size<w8.heap.size):=d3.out.lt;have s0:=d3.out.cell 0;have s1:=d3.out.cell 1;simp at s0 s1;clear v0 v1 v2 v3 J hw8 h9 j2 d9 h4 g4 i2 e0 d4;go_wp2_with fail;refine(Zrb _ _ _ _ _ _ _ _ _ _ _ d8.lim j1 d8.2.1 hm).mono ?_;rintro e w9 ⟨a6,I,A9,n9,c9,n8,rfl,g8⟩;have e1:=d8.sgEq;rw[Zj]at e1;rw[e1,a9.out,n0.out]at g8;rcases g8 with ⟨-,rfl,d7⟩|⟨a2,-⟩
  case inr=>exact absurd j0 (by omega)
  clear e1;have k5:Hid (Blk _ _ _ _):=Zc a6 o1.out;have m1:Hid (Blk _ _ _ _):=Zc a6 l0.out;have n1:Hid (Blk _ _ _ _):=Zc a6 o2.out;have a4:Hid (Blk _ _ _ _):=Zc a6 d3.out;have d6:=f6.below a6;have m0:=i9.trans (a6.mono i9.size);have s0:=a4.out.cell 0;have s1:=a4.out.cell 1;have s2:=a4.out.frozen 0;have s3:=a4.out.frozen 1;simp at s0 s1;go_wp2_with fail;generalize hw10:(w9.setCell ⟨w4.heap.size,0,none⟩ (.bool I)).setCell ⟨w4.heap.size,1,none⟩ (.slice A9 n9 c9)=w10;have y:Hid (Blk w10 (w.heap.size+1+1) 39 #[.bool false,.slice none 0 0]):=by rw[<- hw10];exact(k5.out.far (by simp <;> omega) _).far (by simp <;> omega) _
  have a0:Hid (Blk w10 (w.heap.size+1+1+1) 39 #[.bool false,.slice none 0 0]):=by rw[<- hw10];exact(m1.out.far (by simp <;> omega) _).far (by simp <;> omega) _
  have e9:Hid (Blk w10 w3.heap.size 39 #[.bool f,.slice A7 n7 c7]):=by rw[<- hw10];exact(n1.out.far (by simp <;> omega) _).far (by simp <;> omega) _
  have e7:Hid (Blk w10 w4.heap.size 39 #[.bool I,.slice A9 n9 c9]):=by rw[<- hw10];exact(a4.out.set_ 0 _).set_ 1 _
  have O:∀ (A:Option Addr) (n c:Nat) (l:List Nat),Lim w9 A n c l->Lim w10 A n c l:=λA n c l h=>by
   rw[<- hw10];exact Lim.set_box (Lim.set_box h a4.out (NoLimb.box _ _ _ _) 0 _) (a4.out.set_ 0 _) (NoLimb.box _ _ _ _) 1 _
  have b7:Wd w10 f A7 n7 c7 ZQ:=⟨d6.1,d6.2.1,O _ _ _ _ d6.2.2⟩;have b9:Wd w10 I A9 n9 c9 ZR:=⟨d7.1,d7.2.1,O _ _ _ _ d7.2.2⟩;have g6:Below w.heap.size w w10:=by rw[<- hw10];exact(m0.setCell (p:=⟨w4.heap.size,0,none⟩) (by simp only[];omega) _).setCell (p:=⟨w4.heap.size,1,none⟩) (by simp only[];omega) _
  clear O hw10 s0 s1 s2 s3 f6 d8 d6 d7;have p0:=e9.out.cell 0;have p1:=e9.out.cell 1;have s0:=e7.out.cell 0;have s1:=e7.out.cell 1;simp at p0 p1 s0 s1;have q1:=y.out.cell 0;have q2:=y.out.cell 1;have q3:=y.out.frozen 0;have q4:=y.out.frozen 1;have r1:=a0.out.cell 0;have r2:=a0.out.cell 1;have r3:=a0.out.frozen 0;have r4:=a0.out.frozen 1;simp at q1 q2 r1 r2
  go_region
  go_wp2
  generalize hw12:((((w10.setCell ⟨w.heap.size+1+1,0,none⟩ (.bool f)).setCell ⟨w.heap.size+1+1,1,none⟩ (.slice A7 n7 c7)).setCell ⟨w.heap.size+1+1+1,0,none⟩ (.bool I)).setCell ⟨w.heap.size+1+1+1,1,none⟩ (.slice A9 n9 c9)).drew=w12;have b1:=(y.out.set_ 0 (.bool f)).set_ 1 (.slice A7 n7 c7);have b2:=(a0.out.far (p:=⟨w.heap.size+1+1,0,none⟩) (by simp <;> omega) (.bool f)).far (p:=⟨w.heap.size+1+1,1,none⟩) (by simp <;> omega) (.slice A7 n7 c7);have b3:Blk w12 (w.heap.size+1+1) 39 #[.bool f,.slice A7 n7 c7]:=by rw[<- hw12];exact(b1.far (by simp <;> omega) _).far (by simp <;> omega) _
  have b4:Blk w12 (w.heap.size+1+1+1) 39 #[.bool I,.slice A9 n9 c9]:=by rw[<- hw12];exact(b2.set_ 0 _).set_ 1 _
  have h5:Below w.heap.size w w12:=by rw[<- hw12];exact Zf ((((g6.setCell (p:=⟨w.heap.size+1+1,0,none⟩) (by simp <;> omega) _).setCell (p:=⟨w.heap.size+1+1,1,none⟩) (by simp <;> omega) _).setCell (p:=⟨w.heap.size+1+1+1,0,none⟩) (by simp <;> omega) _).setCell (p:=⟨w.heap.size+1+1+1,1,none⟩) (by simp <;> omega) _) 1
  have e8:∀ (A:Option Addr) (n c:Nat) (l:List Nat),Lim w10 A n c l->Lim w12 A n c l:=λA n c l h=>by
   rw[<- hw12];exact Lim.set_box (Lim.set_box (Lim.set_box (Lim.set_box h y.out (NoLimb.box _ _ _ _) 0 _) (y.out.set_ 0 _) (NoLimb.box _ _ _ _) 1 _) b2 (NoLimb.box _ _ _ _) 0 _) (b2.set_ 0 _) (NoLimb.box _ _ _ _) 1 _
  have t1:=b3.cell 0;have t2:=b3.cell 1;have t3:=b4.cell 0;have t4:=b4.cell 1;simp at t1 t2 t3 t4;refine bodyPost_ret (v:=.tuple #[.agg #[.bool f,.slice A7 n7 c7],.agg #[.bool I,.slice A9 n9 c9],.int .i64 0]) (by simp[results,Tryz.results76,go_sem,t1,t2,t3,t4]) rfl ?_;exact hfin.out _ _ ⟨h5,_,_,_,_,_,_,_,_,rfl,⟨b7.1,b7.2.1,e8 _ _ _ _ b7.2.2⟩,⟨b9.1,b9.2.1,e8 _ _ _ _ b9.2.2⟩⟩
theorem Zmv(na nb:Bool)(A B:Option Addr)(n c m d:Nat)(za zb:Int)(w:World)(ha:Wd w na A n c za)(hb:Wd w nb B m d zb)(h0:zb≠0) :
    Calls Tryz.prog 76 #[.agg #[.bool na,.slice A n c],.agg #[.bool nb,.slice B m d]] w (Zj0 w za zb):=by
 rcases Qo (za.natAbs%zb.natAbs)with hy|hy;exact Zpr na nb A B n c m d za zb w ha hb h0 hy
 ·by_cases hs:na=nb
  exact Zpg na nb A B n c m d za zb w ha hb h0 hy hs;exact Znw na nb A B n c m d za zb w ha hb h0 hy hs
theorem Zp5(na:Bool)(A B:Option Addr)(n c m d:Nat)(za zb:Int)(w:World)(ha:Wd w na A n c za)(hb:Wd w false B m d zb)(h0:0<zb) :
    Calls Tryz.prog 33 #[.agg #[.bool na,.slice A n c],.agg #[.bool false,.slice B m d]] w (Zfj w (Qg za zb)):=by
 have e1:=Ze3 ha.small hb.small;have hx:=Za (Zls (a:=za) (b:=zb) (by omega));have hy:=Za (Zlm (a:=za) (b:=zb) (by omega));have J:=Za (Zpk (a:=za) (b:=zb) (by omega));have c4:Zhb za zb=(Qp za.natAbs zb.natAbs:Nat):=by unfold Zhb;rw[Gw (by omega)]
 rw[c4]at hx hy J;have HA:=Za ha;have HB:=Za hb;obtain⟨G,hG⟩:=Gz (Qp za.natAbs zb.natAbs);rw[hG]at hx hy J e1
 have HGc:Hid (∀ W:World,Wd W na A n c za->Wd W false B m d zb->Calls Tryz.prog 59 #[.agg #[.bool na,.slice A n c],.agg #[.bool false,.slice B m d]] W (ResW W (G:Int))):=λW h1 h2=>by
  have:=rGcd_ok na false A B n c m d za zb W h1 h2;rw[hG]at this;exact this
 generalize Qg za zb=R at *;clear ha hb hG c4;have a0:∀ X Y Z:Obj,Below w.heap.size w (((w.alloc X).alloc Y).alloc Z):=λX Y Z=>(((Qe w.heap.size w).alloc (Qd _) _).alloc (by simp) _).alloc (by simp;omega) _;have a0:=Za a0;go_enter Tryz.func33,Tryz.ntmps33;go_wp2_with fail;have q0:Blk (((w.alloc (.cells #[.bool na,.slice A n c] 39)).alloc (.cells #[.bool false,.slice B m d] 39)).alloc (.cells #[.bool false,.slice none 0 0,.bool false,.slice none 0 0] 41)) w.heap.size 39 #[.bool na,.slice A n c]:=((Qc _ _ _).alloc _).alloc _
 have q1:Blk (((w.alloc (.cells #[.bool na,.slice A n c] 39)).alloc (.cells #[.bool false,.slice B m d] 39)).alloc (.cells #[.bool false,.slice none 0 0,.bool false,.slice none 0 0] 41)) (w.heap.size+1) 39 #[.bool false,.slice B m d]:=by
  have:=(Qc (w.alloc (.cells #[.bool na,.slice A n c] 39)) 39 #[.bool false,.slice B m d]).alloc (.cells #[.bool false,.slice none 0 0,.bool false,.slice none 0 0] 41);simp only[Qa]at this;exact this
 have q2:Blk (((w.alloc (.cells #[.bool na,.slice A n c] 39)).alloc (.cells #[.bool false,.slice B m d] 39)).alloc (.cells #[.bool false,.slice none 0 0,.bool false,.slice none 0 0] 41)) (w.heap.size+1+1) 41 #[.bool false,.slice none 0 0,.bool false,.slice none 0 0]:=by
  have:=Qc ((w.alloc (.cells #[.bool na,.slice A n c] 39)).alloc (.cells #[.bool false,.slice B m d] 39)) 41 #[.bool false,.slice none 0 0,.bool false,.slice none 0 0];simp only[Qa]at this;exact this
 refine(HGc.out _ (((HA.out.alloc _).alloc _).alloc _) (((HB.out.alloc _).alloc _).alloc _)).mono ?_;rintro e w1 ⟨o,ng,Ag,kg,cg,code,rfl,hR⟩;rcases hR with ⟨-,rfl,b9⟩|⟨b5,-⟩
 case inr=>exact absurd b5 (by omega)
 have I:Below w.heap.size w w1:=(a0.out _ _ _).trans (o.mono (by simp;omega));have c9:=Za (HA.out.below I);have b2:=Za (HB.out.below I);have s1:w.heap.size+1+1<w1.heap.size:=by have:=o.size;simp at this;omega
 replace q0:=Zc o q0;replace q1:=Zc o q1;replace q2:=Zc o q2;have b4:=Za b9;have s2:w.heap.size+1+1<w1.heap.size:=s1;clear o b9;obtain⟨W3,y,d8,q3,kW,kB,s3⟩:=Zr 39 #[.bool ng,.slice Ag kg cg] I (by omega);replace q0:=kB _ _ _ q0;replace q1:=kB _ _ _ q1;replace q2:=kB _ _ _ q2;have d5:=Za (kW _ _ _ _ _ c9.out);have c7:=Za (kW _ _ _ _ _ b2.out);have U:=Za (kW _ _ _ _ _ b4.out);have s4:w.heap.size+1+1<w1.heap.size:=s2;clear kW kB c9 b2 b4 I;have c0:=Za q0.two;have c1:=Za q1.two;have c3:=Za q3.two;rw[<- y]at c0 c1 c3;obtain⟨e4,e5,-,-⟩:=c0.out;obtain⟨a4,a6,-,-⟩:=c1.out;obtain⟨a1,V,-,-⟩:=c3.out;have hq:=Za (Qb q0 (Qb q1 (Qb q2 q3)));clear q0 q1 q2 q3;replace y:=Za y;go_wp2_with fail;rw[y.out];refine(Zmv na ng A Ag n c kg cg za G _ d5.out U.out J.out).mono ?_;rintro e w4 ⟨f,nx,Ax,kx,cx,nr,Ar,kr,cr,rfl,O,-⟩;rw[hx.out]at O;have b0:Below w.heap.size w w4:=d8.trans (f.mono (by omega));have b6:=Za (c7.out.below f);have d4:=Za (U.out.below f);have s5:w1.heap.size+1<=w4.heap.size:=by have:=f.size;omega
 have q1:=Zc f hq.out.2.1;have q2:=Zc f hq.out.2.2.1;have q3:=Zc f hq.out.2.2.2;clear f c0 c1 c3 e4 e5 a4 a6 a1 V y d5 c7 U d8 hq;obtain⟨W5,a5,b7,q5,kW,kB,s6⟩:=Zr 39 #[.bool nx,.slice Ax kx cx] b0 (by omega);replace q1:=kB _ _ _ q1;replace q2:=kB _ _ _ q2;replace q3:=kB _ _ _ q3;have d6:=Za (kW _ _ _ _ _ b6.out);have b3:=Za (kW _ _ _ _ _ d4.out);have a7:=Za (kW _ _ _ _ _ O);clear kW kB b6 d4 O b0;obtain⟨W6,u,d9,-,kW,kB,s7⟩:=Zr 39 #[.bool nr,.slice Ar kr cr] b7 (by omega);replace q1:=kB _ _ _ q1;replace q2:=kB _ _ _ q2;replace q3:=kB _ _ _ q3;replace q5:=kB _ _ _ q5;have b8:=Za (kW _ _ _ _ _ d6.out);have d3:=Za (kW _ _ _ _ _ b3.out);have a8:=Za (kW _ _ _ _ _ a7.out);clear kW kB d6 b3 a7 b7;have c1:=Za q1.two;have c3:=Za q3.two;rw[<- u,<- a5]at c1 c3;obtain⟨a4,a6,-,-⟩:=c1.out;obtain⟨a1,V,-,-⟩:=c3.out;have hq:=Za (Qb q2 q5);clear q1 q2 q3 q5;rw[<- a5]at u;replace u:=Za u;clear a5;go_wp2_with fail;rw[u.out];refine(Zmv false ng B Ag m d kg cg zb G _ b8.out d3.out J.out).mono ?_;rintro e w7 ⟨h,ny,Ay,ky,cy,ns,As,ks,cs,rfl,T,-⟩;rw[hy.out]at T;have b1:Below w.heap.size w w7:=d9.trans (h.mono (by omega));have c6:=Za (a8.out.below h);have s8:w4.heap.size+2<=w7.heap.size:=by have:=h.size;omega
 have q2:=Zc h hq.out.1;have q5:=Zc h hq.out.2;clear h c1 c3 a4 a6 a1 V u b8 d3 a8 d9 hq;obtain⟨W8,a3,e0,q8,kW,kB,s9⟩:=Zr 39 #[.bool ny,.slice Ay ky cy] b1 (by omega);replace q2:=kB _ _ _ q2;replace q5:=kB _ _ _ q5;have d0:=Za (kW _ _ _ _ _ c6.out);have a9:=Za (kW _ _ _ _ _ T);clear kW kB c6 T b1;obtain⟨W9,C,a2,-,kW,kB,f4⟩:=Zr 39 #[.bool ns,.slice As ks cs] e0 (by omega);replace q2:=kB _ _ _ q2;replace q5:=kB _ _ _ q5;replace q8:=kB _ _ _ q8;have e3:=Za (kW _ _ _ _ _ d0.out);have e2:=Za (kW _ _ _ _ _ a9.out);clear kW kB d0 a9 e0;have c5:=Za q5.two;have c8:=Za q8.two;have c2:=Za q2.four;have hq:=Za q2;rw[<- C,<- a3]at c5 c8 c2;rw[<- a3]at C;clear a3 q2 q5 q8;obtain⟨f6,f3,-,-⟩:=c5.out;obtain⟨f8,f0,-,-⟩:=c8.out;obtain⟨f7,f9,e8,g0,e7,e6,e9,f5⟩:=c2.out;replace C:=Za C;replace a2:=Za a2;go_wp2_with fail;rw[C.out];obtain⟨W,hW,hB,d7,kW,-⟩:=Zal nx Ax kx cx ny Ay ky cy a2.out (by omega) hq.out;rw[hW];obtain⟨r0,r1,r2,r3,-⟩:=d7.four;refine bodyPost_ret (v:=.agg #[.bool nx,.slice Ax kx cx,.bool ny,.slice Ay ky cy]) (by simp[results,Tryz.results33,go_sem,r0,r1,r2,r3]) rfl ?_;exact⟨hB,_,_,_,_,_,_,_,_,rfl,kW _ _ _ _ _ e3.out,kW _ _ _ _ _ e2.out⟩
theorem Zi1(na:Bool)(A B:Option Addr)(n c m d:Nat)(za zb:Int)(w:World)(ha:Wd w na A n c za)(hb:Wd w false B m d zb)(h0:0<zb) :
    Calls Tryz.prog 157 #[.agg #[.bool na,.slice A n c],.agg #[.bool false,.slice B m d]] w (Zfj w (Qg za zb)):=by
 have e7:=Ze3 ha.small hb.small;have hx:=Za (Zls (a:=za) (b:=zb) (by omega));have hy:=Za (Zlm (a:=za) (b:=zb) (by omega));have U:=Za (Zpk (a:=za) (b:=zb) (by omega));have d0:Zhb za zb=(Qp za.natAbs zb.natAbs:Nat):=by unfold Zhb;rw[Gw (by omega)]
 rw[d0]at hx hy U;have HA:=Za ha;have HB:=Za hb;obtain⟨G,hG⟩:=Gz (Qp za.natAbs zb.natAbs);rw[hG]at hx hy U e7
 have HGc:Hid (∀ W:World,Wd W na A n c za->Wd W false B m d zb->Calls Tryz.prog 151 #[.agg #[.bool na,.slice A n c],.agg #[.bool false,.slice B m d]] W (ResW W (G:Int))):=λW h1 h2=>by
  have:=Zkj na false A B n c m d za zb W h1 h2;rw[hG]at this;exact this
 generalize Qg za zb=R at *;clear ha hb hG d0;have a3:∀ X Y Z:Obj,Below w.heap.size w (((w.alloc X).alloc Y).alloc Z):=λX Y Z=>(((Qe w.heap.size w).alloc (Qd _) _).alloc (by simp) _).alloc (by simp;omega) _;have a3:=Za a3;go_enter Tryz.func157,Tryz.ntmps157;go_wp2_with fail;have q0:Blk (((w.alloc (.cells #[.bool na,.slice A n c] 39)).alloc (.cells #[.bool false,.slice B m d] 39)).alloc (.cells #[.bool false,.slice none 0 0,.bool false,.slice none 0 0] 41)) w.heap.size 39 #[.bool na,.slice A n c]:=((Qc _ _ _).alloc _).alloc _
 have q1:Blk (((w.alloc (.cells #[.bool na,.slice A n c] 39)).alloc (.cells #[.bool false,.slice B m d] 39)).alloc (.cells #[.bool false,.slice none 0 0,.bool false,.slice none 0 0] 41)) (w.heap.size+1) 39 #[.bool false,.slice B m d]:=by
  have:=(Qc (w.alloc (.cells #[.bool na,.slice A n c] 39)) 39 #[.bool false,.slice B m d]).alloc (.cells #[.bool false,.slice none 0 0,.bool false,.slice none 0 0] 41);simp only[Qa]at this;exact this
 have q2:Blk (((w.alloc (.cells #[.bool na,.slice A n c] 39)).alloc (.cells #[.bool false,.slice B m d] 39)).alloc (.cells #[.bool false,.slice none 0 0,.bool false,.slice none 0 0] 41)) (w.heap.size+1+1) 41 #[.bool false,.slice none 0 0,.bool false,.slice none 0 0]:=by
  have:=Qc ((w.alloc (.cells #[.bool na,.slice A n c] 39)).alloc (.cells #[.bool false,.slice B m d] 39)) 41 #[.bool false,.slice none 0 0,.bool false,.slice none 0 0];simp only[Qa]at this;exact this
 refine(HGc.out _ (((HA.out.alloc _).alloc _).alloc _) (((HB.out.alloc _).alloc _).alloc _)).mono ?_;rintro e w1 ⟨u,ng,Ag,kg,cg,code,rfl,hR⟩;rcases hR with ⟨-,rfl,c9⟩|⟨b8,-⟩
 case inr=>exact absurd b8 (by omega)
 have J:Below w.heap.size w w1:=(a3.out _ _ _).trans (u.mono (by simp;omega));have d6:=Za (HA.out.below J);have b5:=Za (HB.out.below J);have s1:w.heap.size+1+1<w1.heap.size:=by have:=u.size;simp at this;omega
 replace q0:=Zc u q0;replace q1:=Zc u q1;replace q2:=Zc u q2;obtain⟨a4,a9,-,-⟩:=q0.two;obtain⟨O,T,-,-⟩:=q1.two;have hq:=Za (Qb q0 (Qb q1 q2));clear q0 q1 q2 u;go_wp2_with fail;refine(Zdy ng Ag kg cg _).mono ?_;rintro e w2 ⟨rfl,f⟩;have d7:Below w.heap.size w w2:=J.trans (f.mono J.size);have d5:=Za (d6.out.below f);have c6:=Za (b5.out.below f);have b7:=Za (c9.below f);have s2:w.heap.size+1+1<w2.heap.size:=by have:=f.size;omega
 have q0:=Zc f hq.out.1;have q1:=Zc f hq.out.2.1;have q2:=Zc f hq.out.2.2;clear a4 a9 O T J f c9 d6 b5 hq;obtain⟨W3,C,e4,q3,kW,kB,s3⟩:=Zr 39 #[.bool ng,.slice Ag kg cg] d7 (by omega);replace q0:=kB _ _ _ q0;replace q1:=kB _ _ _ q1;replace q2:=kB _ _ _ q2;have e1:=Za (kW _ _ _ _ _ d5.out);have d4:=Za (kW _ _ _ _ _ c6.out);have a1:=Za (kW _ _ _ _ _ b7.out);have s4:w.heap.size+1+1<w2.heap.size:=s2;clear kW kB d5 c6 b7 d7;have c0:=Za q0.two;have c1:=Za q1.two;have c3:=Za q3.two;rw[<- C]at c0 c1 c3;obtain⟨a4,a9,-,-⟩:=c0.out;obtain⟨O,T,-,-⟩:=c1.out;obtain⟨a5,a2,-,-⟩:=c3.out;have hq:=Za (Qb q0 (Qb q1 (Qb q2 q3)));clear q0 q1 q2 q3;replace C:=Za C;go_wp2_with fail;rw[C.out];refine(Zf8 na ng A Ag n c kg cg za G _ e1.out a1.out U.out).mono ?_;rintro e w4 ⟨h,nx,Ax,kx,cx,nr,Ar,kr,cr,rfl,V,-⟩;rw[hx.out]at V;have b3:Below w.heap.size w w4:=e4.trans (h.mono (by omega));have b9:=Za (d4.out.below h);have e0:=Za (a1.out.below h);have s5:w2.heap.size+1<=w4.heap.size:=by have:=h.size;omega
 have q1:=Zc h hq.out.2.1;have q2:=Zc h hq.out.2.2.1;have q3:=Zc h hq.out.2.2.2;clear h c0 c1 c3 a4 a9 O T a5 a2 C e1 d4 a1 e4 hq;obtain⟨W5,a8,c4,q5,kW,kB,s6⟩:=Zr 39 #[.bool nx,.slice Ax kx cx] b3 (by omega);replace q1:=kB _ _ _ q1;replace q2:=kB _ _ _ q2;replace q3:=kB _ _ _ q3;have e2:=Za (kW _ _ _ _ _ b9.out);have b6:=Za (kW _ _ _ _ _ e0.out);have b0:=Za (kW _ _ _ _ _ V);clear kW kB b9 e0 V b3;obtain⟨W6,y,e5,-,kW,kB,s7⟩:=Zr 39 #[.bool nr,.slice Ar kr cr] c4 (by omega);replace q1:=kB _ _ _ q1;replace q2:=kB _ _ _ q2;replace q3:=kB _ _ _ q3;replace q5:=kB _ _ _ q5;have c7:=Za (kW _ _ _ _ _ e2.out);have d9:=Za (kW _ _ _ _ _ b6.out);have b1:=Za (kW _ _ _ _ _ b0.out);clear kW kB e2 b6 b0 c4;have c1:=Za q1.two;have c3:=Za q3.two;rw[<- y,<- a8]at c1 c3;obtain⟨O,T,-,-⟩:=c1.out;obtain⟨a5,a2,-,-⟩:=c3.out;have hq:=Za (Qb q2 q5);clear q1 q2 q3 q5;rw[<- a8]at y;replace y:=Za y;clear a8;go_wp2_with fail;rw[y.out];refine(Zf8 false ng B Ag m d kg cg zb G _ c7.out d9.out U.out).mono ?_;rintro e w7 ⟨o,ny,Ay,ky,cy,ns,As,ks,cs,rfl,a0,-⟩;rw[hy.out]at a0;have b4:Below w.heap.size w w7:=e5.trans (o.mono (by omega));have d3:=Za (b1.out.below o);have s8:w4.heap.size+2<=w7.heap.size:=by have:=o.size;omega
 have q2:=Zc o hq.out.1;have q5:=Zc o hq.out.2;clear o c1 c3 O T a5 a2 y c7 d9 b1 e5 hq;obtain⟨W8,a7,e6,q8,kW,kB,s9⟩:=Zr 39 #[.bool ny,.slice Ay ky cy] b4 (by omega);replace q2:=kB _ _ _ q2;replace q5:=kB _ _ _ q5;have d8:=Za (kW _ _ _ _ _ d3.out);have b2:=Za (kW _ _ _ _ _ a0);clear kW kB d3 a0 b4;obtain⟨W9,I,a6,-,kW,kB,f8⟩:=Zr 39 #[.bool ns,.slice As ks cs] e6 (by omega);replace q2:=kB _ _ _ q2;replace q5:=kB _ _ _ q5;replace q8:=kB _ _ _ q8;have e9:=Za (kW _ _ _ _ _ d8.out);have e8:=Za (kW _ _ _ _ _ b2.out);clear kW kB d8 b2 e6;have c5:=Za q5.two;have c8:=Za q8.two;have c2:=Za q2.four;have hq:=Za q2;rw[<- I,<- a7]at c5 c8 c2;rw[<- a7]at I;clear a7 q2 q5 q8;obtain⟨g0,f7,-,-⟩:=c5.out;obtain⟨g2,f6,-,-⟩:=c8.out;obtain⟨g1,g4,f4,g5,f3,f0,f5,f9⟩:=c2.out;replace I:=Za I;replace a6:=Za a6;go_wp2_with fail;rw[I.out];obtain⟨W,hW,hB,e3,kW,-⟩:=Zal nx Ax kx cx ny Ay ky cy a6.out (by omega) hq.out;rw[hW];obtain⟨r0,r1,r2,r3,-⟩:=e3.four;refine bodyPost_ret (v:=.agg #[.bool nx,.slice Ax kx cx,.bool ny,.slice Ay ky cy]) (by simp[results,Tryz.results157,go_sem,r0,r1,r2,r3]) rfl ?_;exact⟨hB,_,_,_,_,_,_,_,_,rfl,kW _ _ _ _ _ e9.out,kW _ _ _ _ _ e8.out⟩
theorem Zfk(w:World) :
    Calls Tryz.prog 148 #[.int .i64 0] w λe w'=>e=.returned (.tuple #[])/\w'=w:=by
 go_enter Tryz.func148,Tryz.ntmps148;go_wp2_with fail
 go_end0
 exact⟨rfl,rfl⟩
theorem Zg2(p:Addr)(w:World) :
    CallsD Tryz.prog 147 #[.pointer (some p)] .returning w λe u' w'=>e=.returned (.tuple #[])/\u'=.returning/\w'=w:=by
 refine callsD_of_wpS Tryz.func147 rfl λc₀ cs hu=>?_;apply wpS_seq;apply wpS_region;simp[wpOpsS,go_sem,recoverD,hu,Tryz.ntmps147,Exit.thenS];rw[show (#[Value.pointer (some p)]++(Qh 14 undef).setIfInBounds 4 Value.nilIface)=#[Value.pointer (some p),undef,undef,undef,undef,Value.nilIface,undef,undef,undef,undef,undef,undef,undef,undef,undef] from rfl];refine wpS_of_wp ?_;go_wp2_with fail;cases c₀
 simp_all [bodyPostS,results,Tryz.results147]
theorem Zfi(na:Bool)(A B:Option Addr)(n c m d:Nat)(za zb:Int)(w:World)(ha:Wd w na A n c za)(hb:Wd w false B m d zb)(h0:0<zb) :
    Calls Tryz.prog 113 #[.agg #[.bool na,.slice A n c],.agg #[.bool false,.slice B m d]] w (Zir w (Qg za zb)):=by
 have c9:0<m:=by rw[<- hb.lim.len];exact length_digits_pos.2 (by omega)
 have a7:((m:Int) == 0)=false:=by simp;omega
 have hm:=hb.2.1;have HA:=Za ha;have HB:=Za hb;clear ha hb;obtain⟨W0,V,C,hq,s0⟩:=Zgf w 39 #[.bool na,.slice A n c] 39 #[.bool false,.slice B m d] 41 #[.bool false,.slice none 0 0,.bool false,.slice none 0 0] 26 #[.int .i64 0];replace V:=Za V;replace hq:=Za hq
 go_enter_defers Tryz.func113,Tryz.ntmps113
 go_wp2_with fail;rw[V.out];have U:=Za (HA.out.below C);have b2:=Za (HB.out.below C);clear HA HB V;refine(Zo0 na A n c _ W0 U.out.lim).mono ?_;rw[U.out.ok];rintro e w1 ⟨rfl,h⟩;have a1:Below w.heap.size w w1:=C.trans (h.mono C.size);have s1:W0.heap.size<=w1.heap.size:=h.size;have b1:=Za (U.out.below h);have Y:=Za (b2.out.below h);obtain⟨q0,q1,q2,q3⟩:=hq.out;replace q0:=Zc h q0;replace q1:=Zc h q1;replace q2:=Zc h q2;replace q3:=Zc h q3;obtain⟨I,T,-,-⟩:=q0.two;obtain⟨J,O,-,-⟩:=q1.two;clear hq h U b2 C;have hq:=Za (Qb q0 (Qb q1 (Qb q2 q3)));clear q0 q1 q2 q3;simp only[Zhy,if_true];go_wp2_with fail;refine(Zfk w1).mono ?_;rintro e w1 ⟨rfl,rfl⟩;go_wp2_with fail;refine(Zo0 false B m d _ w1 Y.out.lim).mono ?_;rw[Y.out.ok];rintro e w2 ⟨rfl,u⟩;have a0:Below w.heap.size w w2:=a1.trans (u.mono a1.size);have s2:w1.heap.size<=w2.heap.size:=u.size;have b0:=Za (b1.out.below u);have a6:=Za (Y.out.below u);obtain⟨q0,q1,q2,q3⟩:=hq.out;replace q0:=Zc u q0;replace q1:=Zc u q1;replace q2:=Zc u q2;replace q3:=Zc u q3;clear I T J O;obtain⟨I,T,-,-⟩:=q0.two;obtain⟨J,O,-,-⟩:=q1.two;clear hq u b1 Y a1;have hq:=Za (Qb q0 (Qb q1 (Qb q2 q3)));clear q0 q1 q2 q3;simp only[Zhy,if_true];go_wp2_with fail;refine(Zfk w2).mono ?_;rintro e w2 ⟨rfl,rfl⟩;go_wp2_with fail;refine(Zjx false B m d w2 (by omega) false a7).mono ?_
 rintro e w3 ⟨rfl,o⟩;have a2:Below w.heap.size w w3:=a0.trans (o.mono a0.size);have s3:w2.heap.size<=w3.heap.size:=o.size;have b3:=Za (b0.out.below o);have a9:=Za (a6.out.below o);obtain⟨q0,q1,q2,q3⟩:=hq.out;replace q0:=Zc o q0;replace q1:=Zc o q1;replace q2:=Zc o q2;replace q3:=Zc o q3;clear I T J O;obtain⟨I,T,-,-⟩:=q0.two;obtain⟨J,O,-,-⟩:=q1.two;clear hq o b0 a6 a0;have hq:=Za (Qb q2 q3);clear q0 q1 q2 q3;go_wp2_with fail;refine(Zi1 na A B n c m d za zb w3 b3.out a9.out h0).mono ?_;rintro e w4 ⟨y,nx,Ax,kx,cx,ny,Ay,ky,cy,rfl,hF⟩;have c1:Below w.heap.size w w4:=a2.trans (y.mono a2.size);have s4:w3.heap.size<=w4.heap.size:=y.size;have q2:=Zc y hq.out.1;have q3:=Zc y hq.out.2;clear hq y b3 a9 a2 I T J O;have c2:=Za q2.four;have c3:=q3.cell 0;have f3:=q3.frozen 0;simp at c3;obtain⟨c5,c6,b8,c8,b6,b5,c0,c4⟩:=c2.out;have hq:=Za (Qb q2 q3);clear q2 q3;go_wp2_with fail;obtain⟨W5,b4,a5,q2,kW,kB,s5⟩:=Zal nx Ax kx cx ny Ay ky cy c1 (by omega) hq.out.1;have q3:=kB _ _ _ (by omega) hq.out.2;have a3:=Za (kW _ _ _ _ _ hF.1);have a4:=Za (kW _ _ _ _ _ hF.2);rw[b4];clear kW kB c5 c6 b8 c8 c3 f3 b6 b5 c0 c4 hq hF;obtain⟨W6,a8,c7,q3,kW,kB,s6⟩:=Zy 0 a5 (by omega) q3;replace q2:=kB _ _ _ (by omega) q2;have b9:=Za (kW _ _ _ _ _ a3.out);have b7:=Za (kW _ _ _ _ _ a4.out);rw[a8];obtain⟨r0,r1,r2,r3,-⟩:=q2.four;have r4:=q3.cell 0;simp at r4
 clear kW kB a5 a3 a4 b4 a8;refine leaves_cons (f:=147) (args:=#[.pointer (some ⟨w.heap.size+1+1+1,0,none⟩)]) (by simp) (by simp[go_sem]) ?_;refine(Zg2 _ _).mono ?_;rintro e u' w'' ⟨rfl,rfl,rfl⟩;refine⟨.tuple #[.agg #[.bool nx,.slice Ax kx cx,.bool ny,.slice Ay ky cy],.int .i64 0],by simp[results,Tryz.results113,go_sem,r0,r1,r2,r3,r4],?_⟩;exact⟨c7,_,_,_,_,_,_,_,_,rfl,b9.out,b7.out⟩
theorem Zi3(na nb:Bool)(A B:Option Addr)(n c m d:Nat)(za zb:Int)(w:World)(ha:Wd w na A n c za)(hb:Wd w nb B m d zb) :
    Calls Tryz.prog 133 #[.agg #[.bool na,.slice A n c],.agg #[.bool nb,.slice B m d]] w (ResW w (za*zb)):=by
 have a0:=ha.lim;have U:=hb.lim;have hn:=ha.2.1;have hm:=hb.2.1;have I:∀ X Y Z V:Obj,Below w.heap.size w ((((w.alloc X).alloc Y).alloc Z).alloc V):=λX Y Z V=>((((Qe w.heap.size w).alloc (Qd _) _).alloc (by simp) _).alloc (by simp;omega) _).alloc (by simp;omega) _
 have hW:∀ X Y Z t,WL ((((w.alloc X).alloc Y).alloc Z).alloc (.cells #[.bool na,.slice A n c,.bool nb,.slice B m d] t)) (some ⟨w.heap.size+1+1+1,0,none⟩) 2 2 [⟨na,A,n,c,digits za.natAbs⟩,⟨nb,B,m,d,digits zb.natAbs⟩]:=λX Y Z t=>by
  have:=WL.two (neg:=na) (neg':=nb) (((a0.alloc X).alloc Y).alloc Z) (((U.alloc X).alloc Y).alloc Z) t;simp only[Qa]at this;exact this
 have hW:=Za hW;have I:=Za I;have J:Hid (okW na (digits za.natAbs)=true/\okW nb (digits zb.natAbs)=true):=⟨ha.ok,hb.ok⟩;have a8:=Za ha.sgEq;have a6:=Za hb.sgEq;clear ha hb;go_enter Tryz.func133,Tryz.ntmps133;go_wp2_with fail;refine(Zdc (hW.out _ _ _ _) (by have:=J.out;simp[WE.ok,this])).mono ?_;rintro e w1 ⟨rfl,o⟩;obtain⟨u,a2⟩:=Zdh o;have a9:w.heap.size+1+1+1<w1.heap.size:=by have:=o.size;simp at this;omega
 have y:Below w.heap.size w w1:=(I.out _ _ _ _).trans (o.mono (by simp;omega));have g0:w1.cell? ⟨w.heap.size,0,none⟩=some (.bool na):=by simp[u,go_sem]
 have g1:w1.cell? ⟨w.heap.size,1,none⟩=some (.slice A n c):=by simp[u,go_sem]
 have g2:w1.cell? ⟨w.heap.size+1,0,none⟩=some (.bool nb):=by simp[u,go_sem]
 have g3:w1.cell? ⟨w.heap.size+1,1,none⟩=some (.slice B m d):=by simp[u,go_sem]
 have gf:w1.frozen? ⟨w.heap.size+1,0,none⟩=false:=by simp[a2,go_sem]
 have gB:Blk w1 (w.heap.size+1) 39 #[.bool nb,.slice B m d]:=by
  refine Zc o ((Blk.alloc (Blk.alloc ?_ _) _));have:=Qc (w.alloc (.cells #[.bool na,.slice A n c] 39)) 39 #[.bool nb,.slice B m d];simp only[Qa]at this;exact this
 have g7:Blk w1 (w.heap.size+1+1) 39 #[.bool false,.slice none 0 0]:=by
  refine Zc o (Blk.alloc ?_ _);have:=Qc ((w.alloc (.cells #[.bool na,.slice A n c] 39)).alloc (.cells #[.bool nb,.slice B m d] 39)) 39 #[.bool false,.slice none 0 0];simp only[Qa]at this;exact this
 have a1:=a0.below y;have O:=U.below y;have HB:=Za gB;clear gB u a2;have g5:=g7.cell 0;have g6:=g7.cell 1;have g8:=g7.frozen 0;have g9:=g7.frozen 1;simp at g5 g6;go_wp2_with fail
 go_region_held3 (λw'=>w'.cell? ⟨w.heap.size,0,none⟩=some (.bool na)/\w'.cell? ⟨w.heap.size,1,none⟩=some (.slice A n c)/\w'.cell? ⟨w.heap.size+1,0,none⟩=some (.bool nb)/\w'.cell? ⟨w.heap.size+1,1,none⟩=some (.slice B m d))
  (((try dsimp only);(repeat' apply Qb);all_goals (first|go_keep|(simp[*,go_sem];done))))
  (first
   | (go_at_call 178;refine(Zw5 _ _ _ _ _ _ _ _ _ (by exact a1) (by exact O) (by omega) (by omega)).mono ?_;rintro e w2 ⟨A2,n2,c2,l2,rfl,a3,a7,f⟩;have k0:=Zb f g0;have k1:=Zb f g1;have j0:=Zb f g2;have k2:=Zb f g3;have k3:=Zb f g5;have k4:=Zb f g6;have k5:=Zn f g5 g8;have k6:=Zn f g6 g9;have k7:=Zc f g7)
   | (go_at_call 158;refine(Zb7 _ _ _ _ _ _ (by exact a3)).mono ?_;rintro e w3 ⟨h,T,A3,n3,c3,C,rfl,a5⟩;have m0:=Zb h k0;have m1:=Zb h k1;have i0:=Zb h j0;have m2:=Zb h k2;have m3:=Zb h k3;have m4:=Zb h k4;have m5:=Zn h k3 k5;have m6:=Zn h k4 k6;have m7:=Zc h k7))
 have a4:Below w.heap.size w w3:=(y.trans ((Zv f).mono y.size)).trans (h.mono (Nat.le_trans y.size (Zv f).size))
 go_wp2
 have HZ:sg (na != nb) (val l2)=za*zb:=by
  have h1:=a8.out;have h2:=a6.out;rw[a7.2,sg_mul,h1,h2]
 refine bodyPost_ret (v:=.tuple #[.agg #[.bool T,.slice A3 n3 c3],.int .i64 C]) (by simp[results,Tryz.results133,go_sem,m3,m4]) rfl ?_;exact ResW.box (HZ▸a5) a4 (by omega) m7
theorem Ztp(na nb:Bool)(A B:Option Addr)(n c m d:Nat)(za zb:Int)(w:World)(ha:Wd w na A n c za)(hb:Wd w nb B m d zb) :
    Calls Tryz.prog 120 #[.agg #[.bool na,.slice A n c],.agg #[.bool nb,.slice B m d]] w (ResW w (za-zb)):=by
 have U:=ha.lim;have O:=hb.lim;have hn:=ha.2.1;have hm:=hb.2.1;have u:∀ X Y Z V:Obj,Below w.heap.size w ((((w.alloc X).alloc Y).alloc Z).alloc V):=λX Y Z V=>((((Qe w.heap.size w).alloc (Qd _) _).alloc (by simp) _).alloc (by simp;omega) _).alloc (by simp;omega) _
 have hW:∀ X Y Z t,WL ((((w.alloc X).alloc Y).alloc Z).alloc (.cells #[.bool na,.slice A n c,.bool nb,.slice B m d] t)) (some ⟨w.heap.size+1+1+1,0,none⟩) 2 2 [⟨na,A,n,c,digits za.natAbs⟩,⟨nb,B,m,d,digits zb.natAbs⟩]:=λX Y Z t=>by
  have:=WL.two (neg:=na) (neg':=nb) (((U.alloc X).alloc Y).alloc Z) (((O.alloc X).alloc Y).alloc Z) t;simp only[Qa]at this;exact this
 have hW:=Za hW;have u:=Za u;have C:Hid (okW na (digits za.natAbs)=true/\okW nb (digits zb.natAbs)=true):=⟨ha.ok,hb.ok⟩;have a6:=Za ha.sgEq;have a3:=Za hb.sgEq;clear ha hb;go_enter Tryz.func120,Tryz.ntmps120;go_wp2_with fail;refine(Zdc (hW.out _ _ _ _) (by have:=C.out;simp[WE.ok,this])).mono ?_;rintro e w1 ⟨rfl,f⟩;obtain⟨h,a1⟩:=Zdh f;have a7:w.heap.size+1+1+1<w1.heap.size:=by have:=f.size;simp at this;omega
 have y:Below w.heap.size w w1:=(u.out _ _ _ _).trans (f.mono (by simp;omega));have g0:w1.cell? ⟨w.heap.size,0,none⟩=some (.bool na):=by simp[h,go_sem]
 have g1:w1.cell? ⟨w.heap.size,1,none⟩=some (.slice A n c):=by simp[h,go_sem]
 have g2:w1.cell? ⟨w.heap.size+1,0,none⟩=some (.bool nb):=by simp[h,go_sem]
 have g3:w1.cell? ⟨w.heap.size+1,1,none⟩=some (.slice B m d):=by simp[h,go_sem]
 have gf:w1.frozen? ⟨w.heap.size+1,0,none⟩=false:=by simp[a1,go_sem]
 have gB:Blk w1 (w.heap.size+1) 39 #[.bool nb,.slice B m d]:=by
  refine Zc f ((Blk.alloc (Blk.alloc ?_ _) _));have:=Qc (w.alloc (.cells #[.bool na,.slice A n c] 39)) 39 #[.bool nb,.slice B m d];simp only[Qa]at this;exact this
 have g7:Blk w1 (w.heap.size+1+1) 39 #[.bool false,.slice none 0 0]:=by
  refine Zc f (Blk.alloc ?_ _);have:=Qc ((w.alloc (.cells #[.bool na,.slice A n c] 39)).alloc (.cells #[.bool nb,.slice B m d] 39)) 39 #[.bool false,.slice none 0 0];simp only[Qa]at this;exact this
 have a0:=U.below y;have I:=O.below y;have HB:=Za gB;clear gB h a1;have J:w.heap.size<=(w1.setCell ⟨w.heap.size+1,0,none⟩ (.bool (!nb))).heap.size:=by simp;omega
 go_wp2_with fail;refine(Zvw _ _ _ _ _ _ _ _ _ _ _ (by exact a0.set_box HB.out (NoLimb.box _ _ _ _) _ _) (by exact I.set_box HB.out (NoLimb.box _ _ _ _) _ _) hn hm).mono ?_;rintro e w2 ⟨T,a2,A2,n2,c2,o,rfl,a4⟩;have a5:Below w.heap.size w w2:=(y.setCell (p:=⟨w.heap.size+1,0,none⟩) (by simp) _).trans (T.mono J);have m7:=Zc T (g7.far (by simp) _);have m3:=m7.cell 0;have m4:=m7.cell 1;have m5:=m7.frozen 0;have m6:=m7.frozen 1;simp at m3 m4;have HM:=Za m7;clear m7;go_wp2_with fail
 have HZ:sg na za.natAbs+sg (!nb) zb.natAbs=za-zb:=by
  have h1:=a6.out;have h2:=a3.out;rw[Zj]at h1 h2;rw[Zzg,h1,h2];omega
 refine bodyPost_ret (v:=.tuple #[.agg #[.bool a2,.slice A2 n2 c2],.int .i64 o]) (by simp[results,Tryz.results120,go_sem,m3,m4]) rfl ?_;exact ResW.box (HZ▸a4) a5 (by omega) HM.out
theorem Zbe(w:World)(t0:TypeId)(c0:Array Value) :
    ∃ W,w.alloc (.cells c0 t0)=W/\Below w.heap.size w W/\Blk W w.heap.size t0 c0/\W.heap.size=w.heap.size+1:=
 ⟨_,rfl,(Qe w.heap.size w).alloc (Qd _) _,Qc _ _ _,by simp⟩
theorem Zqp(x y:Int)(w:World)(hx1:-9223372036854775808<=x)(hx2:x<=9223372036854775807)(h0:0<y)(hy:y<=9223372036854775807) :
    Calls Tryz.prog 69 #[.int .i64 x,.int .i64 y] w (Zir w (Qg x y)):=by
 obtain⟨W0,o,C,hq,s0⟩:=Zbe w 41 #[.bool false,.slice none 0 0,.bool false,.slice none 0 0];replace o:=Za o;replace hq:=Za hq;go_enter Tryz.func69,Tryz.ntmps69;go_wp2_with fail;rw[o.out];clear o;refine(Zbf x W0 hx1 hx2).mono ?_;rintro e w1 ⟨h,na,A,n,c,rfl,hA⟩;have J:Below w.heap.size w w1:=C.trans (h.mono (by omega));have s1:W0.heap.size<=w1.heap.size:=h.size;replace hq:=Za (Zc h hq.out);replace hA:=Za hA;clear h C;go_wp2_with fail;refine(Zbf y w1 (by omega) hy).mono ?_;rintro e w2 ⟨f,nb,B,m,d,rfl,hB⟩;have I:Below w.heap.size w w2:=J.trans (f.mono (by omega));have s2:w1.heap.size<=w2.heap.size:=f.size;replace hq:=Za (Zc f hq.out);replace hA:=Za (hA.out.below f);have hn:nb=false:=by rw[hB.1];simp;omega
 subst hn;replace hB:=Za hB;clear f J;go_wp2_with fail;refine(Zfi na A B n c m d x y w2 hA.out hB.out h0).mono ?_;rintro e w3 ⟨u,nx,Ax,kx,cx,ny,Ay,ky,cy,rfl,hF⟩;have T:Below w.heap.size w w3:=I.trans (u.mono (by omega));have s3:w2.heap.size<=w3.heap.size:=u.size;replace hq:=Za (Zc u hq.out);obtain⟨a4,a3,a2,a5,a0,Y,V,a1⟩:=hq.out.four;clear u I;replace hF:=Za hF;go_wp2_with fail;obtain⟨W5,O,U,q2,kW,-,s5⟩:=Zal nx Ax kx cx ny Ay ky cy T (by omega) hq.out;rw[O];obtain⟨r0,r1,r2,r3,-⟩:=q2.four;refine bodyPost_ret (v:=.tuple #[.agg #[.bool nx,.slice Ax kx cx,.bool ny,.slice Ay ky cy],.int .i64 0]) (by simp[results,Tryz.results69,go_sem,r0,r1,r2,r3]) rfl ?_;exact⟨U,_,_,_,_,_,_,_,_,rfl,kW _ _ _ _ _ hF.out.1,kW _ _ _ _ _ hF.out.2⟩
theorem Zff(na nb na' nb':Bool)(A B A' B':Option Addr)(n c m d n' c' m' d':Nat)(a b:Rat)(w:World)(ha:Fr w na A n c nb B m d a)(hb:Fr w na' A' n' c' nb' B' m' d' b)(hs:(a.num*b.den).natAbs<pw 4096) :
    Calls Tryz.prog 149 #[.agg #[.bool na,.slice A n c,.bool nb,.slice B m d],.agg #[.bool na',.slice A' n' c',.bool nb',.slice B' m' d']] w (NumW w (a.num*b.den)):=by
 obtain⟨W0,f,o,⟨q0,q1,q2⟩,s0⟩:=Zd0 w 41 #[.bool na,.slice A n c,.bool nb,.slice B m d] 41 #[.bool na',.slice A' n' c',.bool nb',.slice B' m' d'] 39 #[.bool false,.slice none 0 0];have hA:=Za (ha.1.below o);have hD:=Za (hb.2.below o);replace hs:=Za hs;clear ha hb;obtain⟨J,O,-⟩:=q0.four;obtain⟨-,-,y,C,-⟩:=q1.four;rw[<- f]at J O y C;replace f:=Za f;go_enter Tryz.func149,Tryz.ntmps149;go_wp2_with fail;rw[f.out];clear f J O y C;refine(Zi3 na nb' A B' n c m' d' a.num b.den W0 hA.out hD.out).mono ?_;rintro e w1 ⟨h,np,P,k,q,code,rfl,hR⟩;rcases hR with ⟨-,rfl,hP⟩|⟨I,-⟩
 case inr=>exact absurd I (by have:=hs.out;omega)
 have Y:Below w.heap.size w w1:=o.trans (h.mono (by omega));have s1:W0.heap.size<=w1.heap.size:=h.size;replace q2:=Zc h q2;clear h o q0 q1;replace q2:=Za q2;replace hP:=Za hP;go_wp2_with fail;refine(Zdy np P k q w1).mono ?_;rintro e w2 ⟨rfl,u⟩;have U:Below w.heap.size w w2:=Y.trans (u.mono (by omega));have s2:w1.heap.size<=w2.heap.size:=u.size;replace q2:=Zc u q2.out;replace hP:=hP.out.below u;obtain⟨c0,c1,f0,f1⟩:=q2.two;replace q2:=Za q2;replace hP:=Za hP;go_wp2_with fail;obtain⟨W5,T,V,q3,kW,-,s5⟩:=Zas np P k q U (by omega) q2.out;rw[T];obtain⟨r0,r1,-⟩:=q3.two;refine bodyPost_ret (v:=.agg #[.bool np,.slice P k q]) (by simp[results,Tryz.results149,go_sem,r0,r1]) rfl ?_;exact⟨V,_,_,_,_,rfl,kW _ _ _ _ _ hP.out⟩
theorem Zwg(na:Bool)(A B:Option Addr)(n c m d:Nat)(za zb:Int)(w:World)(ha:Wd w na A n c za)(hb:Wd w false B m d zb)(h0:0<zb) :
    Calls Tryz.prog 99 #[.agg #[.bool na,.slice A n c],.agg #[.bool false,.slice B m d]] w (Zir w (Qg za zb)):=by
 have a6:0<m:=by rw[<- hb.lim.len];exact length_digits_pos.2 (by omega)
 have a1:((m:Int) == 0)=false:=by simp;omega
 have hm:=hb.2.1;obtain⟨W0,Y,o,⟨q0,q1,q2⟩,s0⟩:=Zd0 w 39 #[.bool na,.slice A n c] 39 #[.bool false,.slice B m d] 41 #[.bool false,.slice none 0 0,.bool false,.slice none 0 0];have HA:=Za (ha.below o);have HB:=Za (hb.below o);clear ha hb;obtain⟨I,O,-⟩:=q0.two;have hq:=Za (Qb q0 (Qb q1 q2));clear q0 q1 q2;go_enter Tryz.func99,Tryz.ntmps99;go_wp2_with fail;refine(Zh7 HA.out.lim HA.out.ok).mono ?_;rintro e w1 ⟨rfl,f⟩;have T:Below w.heap.size w w1:=o.trans (f.mono o.size);have s1:W0.heap.size<=w1.heap.size:=f.size;replace HA:=Za (HA.out.below f);replace HB:=Za (HB.out.below f);obtain⟨q0,q1,q2⟩:=hq.out;replace q0:=Zc f q0;replace q1:=Zc f q1;replace q2:=Zc f q2;clear I O hq f o Y;obtain⟨y,C,-⟩:=q1.two;have hq:=Za (Qb q0 (Qb q1 q2));clear q0 q1 q2;go_wp2_with fail;refine(Zh7 HB.out.lim HB.out.ok).mono ?_;rintro e w2 ⟨rfl,h⟩;have J:Below w.heap.size w w2:=T.trans (h.mono T.size);have s2:w1.heap.size<=w2.heap.size:=h.size;replace HA:=Za (HA.out.below h);replace HB:=Za (HB.out.below h);obtain⟨q0,q1,q2⟩:=hq.out;replace q0:=Zc h q0;replace q1:=Zc h q1;replace q2:=Zc h q2;clear y C hq h T;obtain⟨I,O,-⟩:=q0.two;obtain⟨y,C,-⟩:=q1.two;have hq:=Za q2;clear q0 q1 q2;go_wp2_with fail;refine(Zp5 na A B n c m d za zb w2 HA.out HB.out h0).mono ?_;rintro e w3 ⟨u,nx,Ax,kx,cx,ny,Ay,ky,cy,rfl,hF⟩;have V:Below w.heap.size w w3:=J.trans (u.mono J.size)
 have s3:w2.heap.size<=w3.heap.size:=u.size;replace hq:=Za (Zc u hq.out);replace hF:=Za hF;clear I O y C u J HA HB;obtain⟨a9,a8,a7,b0,a4,a3,a2,a5⟩:=hq.out.four;go_wp2_with fail;obtain⟨W5,U,a0,q2,kW,-,s5⟩:=Zal nx Ax kx cx ny Ay ky cy V (by omega) hq.out;rw[U];obtain⟨r0,r1,r2,r3,-⟩:=q2.four;refine bodyPost_ret (v:=.tuple #[.agg #[.bool nx,.slice Ax kx cx,.bool ny,.slice Ay ky cy],.int .i64 0]) (by simp[results,Tryz.results99,go_sem,r0,r1,r2,r3]) rfl ?_;exact⟨a0,_,_,_,_,_,_,_,_,rfl,kW _ _ _ _ _ hF.out.1,kW _ _ _ _ _ hF.out.2⟩
theorem rOf_pos(x y:Int)(w:World)(hx1:-9223372036854775808<=x)(hx2:x<=9223372036854775807)(h0:0<y)(hy:y<=9223372036854775807) :
    Calls Tryz.prog 60 #[.int .i64 x,.int .i64 y] w (Zir w (Qg x y)):=by
 obtain⟨W0,o,C,hq,s0⟩:=Zbe w 41 #[.bool false,.slice none 0 0,.bool false,.slice none 0 0];replace o:=Za o;replace hq:=Za hq;go_enter Tryz.func60,Tryz.ntmps60;go_wp2_with fail;rw[o.out];clear o;refine(Zf0 x W0 hx1 hx2).mono ?_;rintro e w1 ⟨h,na,A,n,c,rfl,hA⟩;have J:Below w.heap.size w w1:=C.trans (h.mono (by omega));have s1:W0.heap.size<=w1.heap.size:=h.size;replace hq:=Za (Zc h hq.out);replace hA:=Za hA;clear h C;go_wp2_with fail;refine(Zf0 y w1 (by omega) hy).mono ?_;rintro e w2 ⟨f,nb,B,m,d,rfl,hB⟩;have I:Below w.heap.size w w2:=J.trans (f.mono (by omega));have s2:w1.heap.size<=w2.heap.size:=f.size;replace hq:=Za (Zc f hq.out);replace hA:=Za (hA.out.below f);have hn:nb=false:=by rw[hB.1];simp;omega
 subst hn;replace hB:=Za hB;clear f J;go_wp2_with fail;refine(Zwg na A B n c m d x y w2 hA.out hB.out h0).mono ?_;rintro e w3 ⟨u,nx,Ax,kx,cx,ny,Ay,ky,cy,rfl,hF⟩;have T:Below w.heap.size w w3:=I.trans (u.mono (by omega));have s3:w2.heap.size<=w3.heap.size:=u.size;replace hq:=Za (Zc u hq.out);obtain⟨a4,a3,a2,a5,a0,Y,V,a1⟩:=hq.out.four;clear u I;replace hF:=Za hF;go_wp2_with fail;obtain⟨W5,O,U,q2,kW,-,s5⟩:=Zal nx Ax kx cx ny Ay ky cy T (by omega) hq.out;rw[O];obtain⟨r0,r1,r2,r3,-⟩:=q2.four;refine bodyPost_ret (v:=.tuple #[.agg #[.bool nx,.slice Ax kx cx,.bool ny,.slice Ay ky cy],.int .i64 0]) (by simp[results,Tryz.results60,go_sem,r0,r1,r2,r3]) rfl ?_;exact⟨U,_,_,_,_,_,_,_,_,rfl,kW _ _ _ _ _ hF.out.1,kW _ _ _ _ _ hF.out.2⟩
theorem OnlyNormal.imp{Q:Exit->Act->World->Prop}(e:Exit)(a:Act)(w:World)(h:OnlyNormal Q e a w):Q e a w:=by
 cases e <;> first|exact h|exact(h:False).elim
theorem Z7{P:Program}{id:Nat}{ops:Array Oper}{Q:Exit->Act->World->Prop}{a:Act}{w:World}(L:List Nat)(S:World->Prop)(hm:P.follows .mixedOrders=true)
    (hS:S w.drew) (h:S w.drew->Zaa P .any ops (OnlyNormal Q) L S ops.size (Qh ops.size false) a w.drew):(Code.region id ops true).wp P Q a w:=
 Code.wp_mono OnlyNormal.imp (wp_region_any hm (Ziw _ _ _ _ (h hS)))
theorem wp_heldS{P:Program}{id:Nat}{ops:Array Oper}{Q:Exit->Act->World->Prop}{a:Act}{w w0:World}{B:Nat}{S:World->Prop}(L:List Nat)(hm:P.follows .mixedOrders=true)
    (hv:Hid (∀ wx,Below B w0 wx->S wx)) (hb:Below B w0 w.drew) (h:S w.drew->Zaa P .any ops (OnlyNormal Q) L S ops.size (Qh ops.size false) a w.drew):(Code.region id ops true).wp P Q a w:=Z7 L S hm (hv.out _ hb) h
theorem Zwu{l n:Nat}{P:Program}{id:Nat}{ops:Array Oper}{Q:Exit->Act->World->Prop}{a:Act}{w w0:World}{B:Nat}{S:World->Prop}(L:List Nat)(hm:P.follows .mixedOrders=true)(hnd:Zj7 ops=true)
    (hv:Hid (∀ wx,Below B w0 wx->S wx)) (hb:Below B w0 w.drew) (h:S w.drew->Zaa P .any ops (OnlyNormal Q) L S ops.size (Qh ops.size false) a w.drew):(Code.region id ops true).wpIn (Fence.wide.inRound l) n P Q a w:=Zba L S hm hnd (hv.out _ hb) h
