/- The reference of layer 1: DivMod. Reference of frac: -/
import Derived.BigQuiet
import Derived.Deep.QuietTactic
import Derived.Deep.CutBlock
import Derived.Deep.DeepCutAuto
import Derived.Defers
import Derived.Recover
import Derived.Test.YthappeninglakaaGreatZa05
set_option maxRecDepth 100000
set_option maxHeartbeats 2000000
set_option linter.unusedSimpArgs false
set_option linter.unusedVariables false
namespace Go.Proofs.YthappeninglakaaGreat
open Go.RowKit
open And renaming intro→Qa
open Nat renaming le_refl→Qb,lt_of_le_of_lt→Qg,div_le_self→Qj,mod_lt→Qk,lt_trans→Ql,gcd→Qn
open Below renaming refl→Qc
open World renaming cell?_setCell_other→Qd
open Rat renaming divInt→Qe
open _root_.Array renaming replicate→Qf
open Int renaming fdiv→Qh,fmod→Qi
open Blk renaming new→Qm
attribute [local go_sem] Zi
theorem Ex{G:Prop}(h:G:=by
 rw[Zk,bH.out]at bY;rcases bY with ⟨-,rfl,jx⟩|⟨bC,-⟩
 case inr =>
  exfalso;have h1:=bH.out;rw[<- h1,Zaa]at bC;omega
 have eW:Below w3.heap.size w3 (w3.alloc (.cells #[.bool aD,.slice A3 n3 c3] 39)):=(Below.refl _ _).alloc (Nat.le_refl _) _;have bp:=Blk.new w3 39 #[.bool aD,.slice A3 n3 c3];have jT:w.heap.size+1+1+1<w3.heap.size:=by have:=aa.size;have:=ah.size;omega
 have je:=Zc eW fF;have jh:=Zc eW fG;go_wp2_with fail;refine(Zb0 _ _ _ _ _ _ ((aV.below ah).below eW) Gk).mono ?_;rintro e w4 ⟨dJ,cH,A4,n4,c4,ib,rfl,io⟩;have cK:Below w3.heap.size w3 w4:=eW.trans (dJ.mono Gh);have iL:=Zd (Ze dJ bp);have jE:w3.heap.size<w4.heap.size:=by have:=dJ.size;simp at this;omega
 have ii:Below w.heap.size w w4:=Gs cn cK;have jd:=Zc cK fF;have jf:=Zc cK ie;have jg:=Zc cK fG;have jj:=Zc cK ig;have iM:Hid (Blk _ _ _ _):=Ze cK gP.out;have iO:Hid (Blk _ _ _ _):=Ze cK gU.out;rw[Zk,bI.out]at io;rcases io with ⟨-,rfl,jz⟩|⟨bC,-⟩
 case inr =>
  exfalso;have h1:=bI.out;rw[<- h1,Zaa]at bC;omega
 have jy:=jx.below cK;have cL:Below w4.heap.size w4 (w4.alloc (.cells #[.bool cH,.slice A4 n4 c4] 39)):=(Below.refl _ _).alloc (Nat.le_refl _) _;have bs:=Blk.new w4 39 #[.bool cH,.slice A4 n4 c4];have eO:=Gm cL iL;have aJ:=Gs ii cL;have p0:=eO.out.cell 0;have p1:=eO.out.cell 1;have p2:=eO.out.frozen 0;have p3:=eO.out.frozen 1;simp at p0 p1;replace bs:=Zd bs;clear je jh;have jL:=Zc cL jd;have jM:=Zc cL jf;have jN:=Zc cL jg;have jO:=Zc cL jj;have aF:Hid (Blk _ _ _ _):=Ze cL iM.out;have eh:Hid (Blk _ _ _ _):=Ze cL iO.out;have cD:=jy.below cL;have fZ:=jz.below cL;go_wp2_with fail;generalize iG:w4.alloc _=w5 at *;have iC:w5.heap.size=w4.heap.size+1:=by rw[<- iG];simp
 replace iC:=Zd iC;clear iG;have s0:=bs.out.cell 0;have s1:=bs.out.cell 1;have s2:=bs.out.frozen 0;have s3:=bs.out.frozen 1;simp at s0 s1;have q1:=aF.out.cell 0;have q2:=aF.out.cell 1;have q3:=aF.out.frozen 0;have q4:=aF.out.frozen 1;have r1:=eh.out.cell 0;have r2:=eh.out.cell 1;have r3:=eh.out.frozen 0;have r4:=eh.out.frozen 1;simp at q1 q2 r1 r2
 go_region
 go_wp2
 generalize hw9:((((w5.setCell ⟨w.heap.size+1+1,0,none⟩ (.bool aD)).setCell ⟨w.heap.size+1+1,1,none⟩ (.slice A3 n3 c3)).setCell ⟨w.heap.size+1+1+1,0,none⟩ (.bool cH)).setCell ⟨w.heap.size+1+1+1,1,none⟩ (.slice A4 n4 c4)).drew=w9;have b1:=(aF.out.set_ 0 (.bool aD)).set_ 1 (.slice A3 n3 c3);have b2:=(eh.out.far (p:=⟨w.heap.size+1+1,0,none⟩) Gf (.bool aD)).far (p:=⟨w.heap.size+1+1,1,none⟩) Gf (.slice A3 n3 c3);have b3:Blk w9 (w.heap.size+1+1) 39 #[.bool aD,.slice A3 n3 c3]:=by rw[<- hw9];exact(b1.far Gf _).far Gf _
 have b4:Blk w9 (w.heap.size+1+1+1) 39 #[.bool cH,.slice A4 n4 c4]:=by rw[<- hw9];exact(b2.set_ 0 _).set_ 1 _
 have ct:Below w.heap.size w w9:=by rw[<- hw9];exact Zh ((((aJ.setCell (p:=⟨w.heap.size+1+1,0,none⟩) Gf _).setCell (p:=⟨w.heap.size+1+1,1,none⟩) Gf _).setCell (p:=⟨w.heap.size+1+1+1,0,none⟩) Gf _).setCell (p:=⟨w.heap.size+1+1+1,1,none⟩) Gf _) 1
 have cE:∀ (A:Option Addr) (n c:Nat) (l:List Nat),Lim w5 A n c l->Lim w9 A n c l:=λA n c l h=>by
  rw[<- hw9];exact Lim.set_box (Lim.set_box (Lim.set_box (Lim.set_box h aF.out (NoLimb.box _ _ _ _) 0 _) (aF.out.set_ 0 _) (NoLimb.box _ _ _ _) 1 _) b2 (NoLimb.box _ _ _ _) 0 _) (b2.set_ 0 _) (NoLimb.box _ _ _ _) 1 _
 have t1:=b3.cell 0;have t2:=b3.cell 1;have t3:=b4.cell 0;have t4:=b4.cell 1;simp at t1 t2 t3 t4;refine bodyPost_ret (v:=.tuple #[.agg #[.bool aD,.slice A3 n3 c3],.agg #[.bool cH,.slice A4 n4 c4],.int .i64 0]) (by simp[results,Tryz.results76,go_sem,t1,t2,t3,t4]) rfl ?_;exact hfin.out _ _ ⟨ct,_,_,_,_,_,_,_,_,rfl,⟨cD.1,cD.2.1,cE _ _ _ _ cD.2.2⟩,⟨fZ.1,fZ.2.1,cE _ _ _ _ fZ.2.2⟩⟩):G:=h
theorem Zqf(na nb:Bool)(A B:Option Addr)(n c m d:Nat)(za zb:Int)(w:World)(ha:Wd w na A n c za)(hb:Wd w nb B m d zb)(h0:zb≠0)(hy:za.natAbs%zb.natAbs=0) :
    Calls Tryz.prog 76 #[.agg #[.bool na,.slice A n c],.agg #[.bool nb,.slice B m d]] w (Zke w za zb):=by
 have a7:=ha.lim;have f:=hb.lim;have hn:=ha.2.1;have hm:=hb.2.1;have b0:=f.2.2.1;have d4:=f.2.1;unfold maxLen at b0;have a0:∀ X Y Z V:Obj,Below w.heap.size w ((((w.alloc X).alloc Y).alloc Z).alloc V):=λX Y Z V=>((((Qc w.heap.size w).alloc (Qb _) _).alloc Gh _).alloc Gg _).alloc Gg _;have a0:=Zd a0;have J:Hid ((okW na (digits za.natAbs) && okW nb (digits zb.natAbs))=true):=by unfold Hid;rw[ha.ok,hb.ok];rfl
 have T:=ha.sgEq;have a1:=hb.sgEq;rw[Zk]at T a1;have hU:=ha.small;have hV:=hb.small;clear ha hb;have C:0<zb.natAbs:=Gk;have d0:0<m:=by rw[<- f.len];exact length_digits_pos.2 C
 have c8:((m:Int) == 0)=false:=by simp;omega
 obtain⟨I,O⟩:=Zh9 na nb za.natAbs zb.natAbs C (Or.inl hy);rw[T,a1]at I O;clear T a1 h0;generalize za.natAbs=U at *;generalize zb.natAbs=V at *;have hxs:U/V<pw 4096:=Qg (Qj _ _) hU;have b6:U%V<pw 4096:=Ql (Qk _ C) hV;have hfin:Hid (∀ (e:Ending) (w':World),(Below w.heap.size w w'/\∃ nq Aq kq cq nr Ar kr cr,e=.returned (.tuple #[.agg #[.bool nq,.slice Aq kq cq],.agg #[.bool nr,.slice Ar kr cr],.int .i64 0])/\Wd w' nq Aq kq cq (Qh za zb)/\Wd w' nr Ar kr cr (Qi za zb))->Zke w za zb e w'):=λ_ _ h=>h;generalize Qh za zb=ZQ at *;generalize Qi za zb=ZR at *;have bI:sg na (U%V)=ZR:=by rw[O,hy];simp[sg]
 have bH:sg (na != nb) (U/V)=ZQ:=I.symm;replace bI:=Zd bI;replace bH:=Zd bH;replace hy:=Zd hy;clear I O;go_in;go_wp2_with fail;refine(Ze7 ((((a7.alloc _).alloc _).alloc _).alloc _) ((((f.alloc _).alloc _).alloc _).alloc _) J.out).mono ?_;rintro e w1 ⟨rfl,o⟩;obtain⟨u,c1⟩:=Zc1 o;have c9:w.heap.size+1+1+1<w1.heap.size:=by have:=o.size;simp at this;omega
 have y:Below w.heap.size w w1:=(a0.out _ _ _ _).trans (o.mono Gg);have g0:w1.cell? ⟨w.heap.size,0,none⟩=some (.bool na):=by simp[u,go_sem]
 have g1:w1.cell? ⟨w.heap.size,1,none⟩=some (.slice A n c):=by simp[u,go_sem]
 have g2:w1.cell? ⟨w.heap.size+1,0,none⟩=some (.bool nb):=by simp[u,go_sem]
 have g3:w1.cell? ⟨w.heap.size+1,1,none⟩=some (.slice B m d):=by simp[u,go_sem]
 have bq:Hid (Blk w1 (w.heap.size+1+1) 39 #[.bool false,.slice none 0 0]):=by
  refine Ze o (Blk.alloc ?_ _);exact Ev
 have br:Hid (Blk w1 (w.heap.size+1+1+1) 39 #[.bool false,.slice none 0 0]):=by
  refine Ze o ?_;exact Cj
 have a5:=a7.below y;have a3:=f.below y;clear u c1;go_wp2_with fail;refine(Zj1 _ _ _ _ _ _ U V _ a5 a3 Gk C).mono ?_;rintro e w2 ⟨A2,n2,c2,B2,m2,d2,rfl,a4,aV,aa⟩;have a8:Below w.heap.size w w2:=Gs y aa;have a6:=aV.2.2.1;have c6:=aV.2.1;unfold maxLen at a6;have d3:n2<=4096:=by rw[<- a4.len];exact(Zs _ _).2 hxs
 have c7:m2<=4096:=by rw[<- aV.len];exact(Zs _ _).2 b6
 have b8:=Zc aa g0;have b9:=Zc aa g1;have c0:=Zc aa g2;have c5:=Zc aa g3;have a9:Hid (Blk _ _ _ _):=Ze aa bq.out;have b5:Hid (Blk _ _ _ _):=Ze aa br.out
 have b7:m2=0:=by
  exact IW
 subst b7;go_wp2_with fail;refine(Zb0 _ _ _ _ _ _ a4 Gk).mono ?_;rintro e w3 ⟨ah,aD,A3,n3,c3,a2,rfl,bY⟩;have cn:Below w.heap.size w w3:=Gs a8 ah;have fF:=Zc ah b8;have ie:=Zc ah b9;have fG:=Zc ah c0;have ig:=Zc ah c5;have gP:Hid (Blk _ _ _ _):=Ze ah a9.out;have gU:Hid (Blk _ _ _ _):=Ze ah b5.out;change ResP w3 (sg (na != nb) _) aD A3 n3 c3 a2 at bY;exact Ex
theorem Zp4(na nb:Bool)(A B:Option Addr)(n c m d:Nat)(za zb:Int)(w:World)(ha:Wd w na A n c za)(hb:Wd w nb B m d zb)(h0:zb≠0)(hy:0<za.natAbs%zb.natAbs)(hs:na=nb) :
    Calls Tryz.prog 76 #[.agg #[.bool na,.slice A n c],.agg #[.bool nb,.slice B m d]] w (Zke w za zb):=by
 have a6:=ha.lim;have f:=hb.lim;have hn:=ha.2.1;have hm:=hb.2.1;have a9:=f.2.2.1;have d5:=f.2.1;unfold maxLen at a9;have a0:∀ X Y Z V:Obj,Below w.heap.size w ((((w.alloc X).alloc Y).alloc Z).alloc V):=λX Y Z V=>((((Qc w.heap.size w).alloc (Qb _) _).alloc Gh _).alloc Gg _).alloc Gg _;have a0:=Zd a0;have J:Hid ((okW na (digits za.natAbs) && okW nb (digits zb.natAbs))=true):=by unfold Hid;rw[ha.ok,hb.ok];rfl
 have T:=ha.sgEq;have a1:=hb.sgEq;rw[Zk]at T a1;have hU:=ha.small;have hV:=hb.small;clear ha hb;have C:0<zb.natAbs:=Gk;have d0:0<m:=by rw[<- f.len];exact length_digits_pos.2 C
 have c8:((m:Int) == 0)=false:=by simp;omega
 obtain⟨I,O⟩:=Zh9 na nb za.natAbs zb.natAbs C (Or.inr hs);rw[T,a1]at I O;clear T a1 h0;generalize za.natAbs=U at *;generalize zb.natAbs=V at *;have hxs:U/V<pw 4096:=Qg (Qj _ _) hU;have b5:U%V<pw 4096:=Ql (Qk _ C) hV;have hfin:Hid (∀ (e:Ending) (w':World),(Below w.heap.size w w'/\∃ nq Aq kq cq nr Ar kr cr,e=.returned (.tuple #[.agg #[.bool nq,.slice Aq kq cq],.agg #[.bool nr,.slice Ar kr cr],.int .i64 0])/\Wd w' nq Aq kq cq (Qh za zb)/\Wd w' nr Ar kr cr (Qi za zb))->Zke w za zb e w'):=λ_ _ h=>h;generalize Qh za zb=ZQ at *;generalize Qi za zb=ZR at *;subst hs;have c0:(na != na)=false:=Gh;have bI:sg na (U%V)=ZR:=O.symm;have bH:sg false (U/V)=ZQ:=by rw[I,c0]
 replace bI:=Zd bI;replace bH:=Zd bH;clear I O;go_in;go_wp2_with fail;refine(Ze7 ((((a6.alloc _).alloc _).alloc _).alloc _) ((((f.alloc _).alloc _).alloc _).alloc _) J.out).mono ?_;rintro e w1 ⟨rfl,o⟩;obtain⟨u,b9⟩:=Zc1 o;have c9:w.heap.size+1+1+1<w1.heap.size:=by have:=o.size;simp at this;omega
 have y:Below w.heap.size w w1:=(a0.out _ _ _ _).trans (o.mono Gg);have g0:w1.cell? ⟨w.heap.size,0,none⟩=some (.bool na):=by simp[u,go_sem]
 have g1:w1.cell? ⟨w.heap.size,1,none⟩=some (.slice A n c):=by simp[u,go_sem]
 have g2:w1.cell? ⟨w.heap.size+1,0,none⟩=some (.bool na):=by simp[u,go_sem]
 have g3:w1.cell? ⟨w.heap.size+1,1,none⟩=some (.slice B m d):=by simp[u,go_sem]
 have bq:Hid (Blk w1 (w.heap.size+1+1) 39 #[.bool false,.slice none 0 0]):=by
  refine Ze o (Blk.alloc ?_ _);exact Cg
 have br:Hid (Blk w1 (w.heap.size+1+1+1) 39 #[.bool false,.slice none 0 0]):=by
  refine Ze o ?_;exact CV
 have a4:=a6.below y;have a2:=f.below y;clear u b9;go_wp2_with fail;refine(Zj1 _ _ _ _ _ _ U V _ a4 a2 Gk C).mono ?_;rintro e w2 ⟨A2,n2,c2,B2,m2,d2,rfl,a3,aV,aa⟩;have a7:Below w.heap.size w w2:=Gs y aa;have a5:=aV.2.2.1;have c6:=aV.2.1;unfold maxLen at a5;have d4:n2<=4096:=by rw[<- a3.len];exact(Zs _ _).2 hxs
 have c7:m2<=4096:=by rw[<- aV.len];exact(Zs _ _).2 b5
 have b6:=Zc aa g0;have b7:=Zc aa g1;have b8:=Zc aa g2;have c5:=Zc aa g3;have a8:Hid (Blk _ _ _ _):=Ze aa bq.out;have b0:Hid (Blk _ _ _ _):=Ze aa br.out;have d3:0<m2:=by rw[<- aV.len];exact length_digits_pos.2 hy
 go_wp2_with fail;refine(Zb0 _ _ _ _ _ _ a3 Gk).mono ?_;rintro e w3 ⟨ah,aD,A3,n3,c3,c1,rfl,bY⟩;have cn:Below w.heap.size w w3:=Gs a7 ah;have fF:=Zc ah b6;have ie:=Zc ah b7;have fG:=Zc ah b8;have ig:=Zc ah c5;have gP:Hid (Blk _ _ _ _):=Ze ah a8.out;have gU:Hid (Blk _ _ _ _):=Ze ah b0.out;exact Ex
theorem Zoj(na nb:Bool)(A B:Option Addr)(n c m d:Nat)(za zb:Int)(w:World)(ha:Wd w na A n c za)(hb:Wd w nb B m d zb)(h0:zb≠0)(hy:0<za.natAbs%zb.natAbs)(hs:na≠nb) :
    Calls Tryz.prog 76 #[.agg #[.bool na,.slice A n c],.agg #[.bool nb,.slice B m d]] w (Zke w za zb):=by
 have i5:=ha.lim;have a8:=hb.lim;have hn:=ha.2.1;have hm:=hb.2.1;have l9:=a8.2.2.1;have p4:=a8.2.1;unfold maxLen at l9;have f4:∀ X Y Z V:Obj,Below w.heap.size w ((((w.alloc X).alloc Y).alloc Z).alloc V):=λX Y Z V=>((((Qc w.heap.size w).alloc (Qb _) _).alloc Gh _).alloc Gg _).alloc Gg _;have f4:=Zd f4;have e9:Hid ((okW na (digits za.natAbs) && okW nb (digits zb.natAbs))=true):=by unfold Hid;rw[ha.ok,hb.ok];rfl
 have f3:=ha.sgEq;have a6:=hb.sgEq;rw[Zk]at f3 a6;have hU:=ha.small;have hV:=hb.small;clear ha hb;have bZ:0<zb.natAbs:=Gk;have p7:0<m:=by rw[<- a8.len];exact length_digits_pos.2 bZ
 have o9:((m:Int) == 0)=false:=by simp;omega
 obtain⟨d6,d8⟩:=Zo1 na nb za.natAbs zb.natAbs bZ hy hs;rw[f3,a6]at d6 d8;clear f3 h0;replace a6:=Zd a6;generalize za.natAbs=U at *;generalize zb.natAbs=V at *;have hxs:U/V<pw 4096:=Qg (Qj _ _) hU;have m1:U%V<pw 4096:=Ql (Qk _ bZ) hV
 have g5:(sg (na != nb) (U/V+1)).natAbs<pw 4096:=by
  exact FO
 have g9:(sg nb (V-U%V)).natAbs<pw 4096:=by rw[Zaa];omega
 rw[<- d6]at g5;rw[<- d8]at g9;have hfin:Hid (∀ (e:Ending) (w':World),(Below w.heap.size w w'/\∃ nq Aq kq cq nr Ar kr cr,e=.returned (.tuple #[.agg #[.bool nq,.slice Aq kq cq],.agg #[.bool nr,.slice Ar kr cr],.int .i64 0])/\Wd w' nq Aq kq cq (Qh za zb)/\Wd w' nr Ar kr cr (Qi za zb))->Zke w za zb e w'):=λ_ _ h=>h;generalize Qh za zb=ZQ at *;generalize Qi za zb=ZR at *;have b5:(na != nb)=true:=by simpa using hs
 have q7:(na == nb)=false:=by simpa using hs
 have l6:Hid (sg true (U/V)+-1=ZQ):=by unfold Hid;rw[d6,b5];simp only[sg,if_true];omega
 have j3:Hid (sg na (U%V)+zb=ZR):=by
  unfold Hid;rw[d8,<- a6.out];have:=Qk U bZ;cases na <;> cases nb <;> simp[sg]at hs ⊢ <;> omega
 replace b5:=Zd b5;clear d6 d8;go_in;go_wp2_with fail;refine(Ze7 ((((i5.alloc _).alloc _).alloc _).alloc _) ((((a8.alloc _).alloc _).alloc _).alloc _) e9.out).mono ?_;rintro e w1 ⟨rfl,b8⟩;obtain⟨c1,o4⟩:=Zc1 b8;have q5:w.heap.size+1+1+1<w1.heap.size:=by have:=b8.size;simp at this;omega
 have c5:Below w.heap.size w w1:=(f4.out _ _ _ _).trans (b8.mono Gg);have g0:w1.cell? ⟨w.heap.size,0,none⟩=some (.bool na):=by simp[c1,go_sem]
 have g1:w1.cell? ⟨w.heap.size,1,none⟩=some (.slice A n c):=by simp[c1,go_sem]
 have g2:w1.cell? ⟨w.heap.size+1,0,none⟩=some (.bool nb):=by simp[c1,go_sem]
 have g3:w1.cell? ⟨w.heap.size+1,1,none⟩=some (.slice B m d):=by simp[c1,go_sem]
 have bq:Hid (Blk w1 (w.heap.size+1+1) 39 #[.bool false,.slice none 0 0]):=by
  refine Ze b8 (Blk.alloc ?_ _);exact Ev
 have br:Hid (Blk w1 (w.heap.size+1+1+1) 39 #[.bool false,.slice none 0 0]):=by
  refine Ze b8 ?_;exact Cj
 have i0:=i5.below c5;have h7:=a8.below c5;clear c1 o4;go_wp2_with fail;refine(Zj1 _ _ _ _ _ _ U V _ i0 h7 Gk bZ).mono ?_;rintro e w2 ⟨A2,n2,c2,B2,m2,d2,rfl,h8,b9,a0⟩;have h6:Below w.heap.size w w2:=Gs c5 a0;have i3:=b9.2.2.1;have o7:=b9.2.1;unfold maxLen at i3;have q6:n2<=4096:=by rw[<- h8.len];exact(Zs _ _).2 hxs
 have o8:m2<=4096:=by rw[<- b9.len];exact(Zs _ _).2 m1
 have m6:=Zc a0 g0;have o1:=Zc a0 g1;have o2:=Zc a0 g2;have k1:=Zc a0 g3;have m9:Hid (Blk _ _ _ _):=Ze a0 bq.out;have k7:Hid (Blk _ _ _ _):=Ze a0 br.out;have p9:0<m2:=by rw[<- b9.len];exact length_digits_pos.2 hy
 go_wp2_with fail;refine(Zb0 _ _ _ _ _ _ h8 Gk).mono ?_;rintro e w3 ⟨J,e8,A3,n3,c3,k3,rfl,f5⟩;have g4:Below w.heap.size w w3:=Gs h6 J;have i6:=Zc J m6;have n5:=Zc J o1;have f7:=Zc J o2;have m7:=Zc J k1;have k9:Hid (Blk _ _ _ _):=Ze J m9.out;have k8:Hid (Blk _ _ _ _):=Ze J k7.out;rw[Zk]at f5;rcases f5 with ⟨-,rfl,j9⟩|⟨a2,-⟩
 case inr =>
  exfalso;rw[Zaa]at a2;omega
 have d5:Below w3.heap.size w3 (w3.alloc (.cells #[.bool e8,.slice A3 n3 c3] 39)):=(Qc _ _).alloc (Qb _) _;have bp:=Qm w3 39 #[.bool e8,.slice A3 n3 c3];have p5:w.heap.size+1+1+1<w3.heap.size:=by have:=a0.size;have:=J.size;omega
 have l7:=Zc d5 i6;have l2:=Zc d5 f7;go_wp2_with fail;refine(Zb0 _ _ _ _ _ _ ((b9.below J).below d5) Gk).mono ?_;rintro e w4 ⟨b0,a5,A4,n4,c4,m5,rfl,i9⟩;have a3:Below w3.heap.size w3 w4:=d5.trans (b0.mono Gh);have l3:=Zd (Ze b0 bp);have o6:w3.heap.size<w4.heap.size:=by have:=b0.size;simp at this;omega
 have h3:Below w.heap.size w w4:=Gs g4 a3;have k6:=Zc a3 i6;have k2:=Zc a3 n5;have l1:=Zc a3 f7;have l4:=Zc a3 m7;have j7:Hid (Blk _ _ _ _):=Ze a3 k9.out;have j8:Hid (Blk _ _ _ _):=Ze a3 k8.out;rw[Zk]at i9;rcases i9 with ⟨-,rfl,m8⟩|⟨a2,-⟩
 case inr =>
  exfalso;rw[Zaa]at a2;omega
 have k4:=j9.below a3;have C:Below w4.heap.size w4 (w4.alloc (.cells #[.bool a5,.slice A4 n4 c4] 39)):=(Qc _ _).alloc (Qb _) _;have bs:=Qm w4 39 #[.bool a5,.slice A4 n4 c4];have a9:=Gm C l3;have f0:=Gs h3 C;have p0:=a9.out.cell 0;have p1:=a9.out.cell 1;have p2:=a9.out.frozen 0;have p3:=a9.out.frozen 1;simp at p0 p1;replace bs:=Zd bs;clear l7 l2;have j2:=Zc C k6;have j5:=Zc C k2;have f9:=Zc C l1;have i4:=Zc C l4;have m3:Hid (Blk _ _ _ _):=Ze C j7.out;have j6:Hid (Blk _ _ _ _):=Ze C j8.out;have n8:=k4.below C;have l8:=m8.below C;go_wp2_with fail;generalize hw5:w4.alloc _=w5 at *;have g7:w5.heap.size=w4.heap.size+1:=by rw[<- hw5];simp
 replace g7:=Zd g7;clear hw5;have s0:=bs.out.cell 0;have s1:=bs.out.cell 1;have s2:=bs.out.frozen 0;have s3:=bs.out.frozen 1;simp at s0 s1
 go_region_with (first
  | (go_at_call 32;refine(Zc6 (-1) _ Gk Gk).mono ?_;rintro e w6 ⟨m0,o5,A6,n6,c6,rfl,c8⟩;have u:=Zv m0;have u0:=Zc u p0;have u1:=Zc u p1;have u2:=Zo u p0 p2;have u3:=Zo u p1 p3;have e4:=n8.below u)
  | (go_at_call 124;refine(Ze9 _ _ _ _ _ _ _ _ _ _ _ e4.lim c8.lim e4.2.1 c8.2.1).mono ?_;rintro e w7 ⟨b7,f,A7,n7,c7,l0,rfl,j1⟩;have v0:=Zc b7 u0;have v1:=Zc b7 u1;have v2:=Zo b7 u0 u2;have v3:=Zo b7 u1 u3))
 all_goals
  have e1:=e4.sgEq;have e2:=c8.sgEq;rw[Zk]at e1 e2;rw[e1,e2,l6.out]at j1;rcases j1 with ⟨-,rfl,d9⟩|⟨a2,-⟩
  case inr=>exact absurd g5 Gk
  clear e1 e2 e4 c8;have o:Below w5.heap.size w5 w7:=Gs u b7;have i1:Hid (Blk _ _ _ _):=Ze o m3.out;have f6:Hid (Blk _ _ _ _):=Ze o j6.out;have e0:Hid (Blk _ _ _ _):=Ze o a9.out;have i2:Hid (Blk _ _ _ _):=Ze o bs.out;have g8:=Zc o f9;have i7:=Zc o i4;have d4:=l8.below o;have h9:=((a8.below f0)).below o;have n0:=Gs f0 o;clear u0 u1 u2 u3 s0 s1 s2 s3 p0 p1 p2 p3 j2 j5 f9 i4
  go_upto_region 10 with fail
  generalize hw8:(w7.setCell ⟨w3.heap.size,0,none⟩ (.bool f)).setCell ⟨w3.heap.size,1,none⟩ (.slice A7 n7 c7)=w8;have l5:Hid (Blk w8 (w.heap.size+1+1) 39 #[.bool false,.slice none 0 0]):=by rw[<- hw8];exact(i1.out.far Gf _).far Gf _
  have m4:Hid (Blk w8 (w.heap.size+1+1+1) 39 #[.bool false,.slice none 0 0]):=by rw[<- hw8];exact(f6.out.far Gf _).far Gf _
  have o0:Hid (Blk w8 w3.heap.size 39 #[.bool f,.slice A7 n7 c7]):=by rw[<- hw8];exact(e0.out.set_ 0 _).set_ 1 _
  have d3:Hid (Blk w8 w4.heap.size 39 #[.bool a5,.slice A4 n4 c4]):=by rw[<- hw8];exact(i2.out.far Gf _).far Gf _
  have p6:w8.cell? ⟨w.heap.size+1,0,none⟩=some (.bool nb):=by rw[<- hw8];exact(Qd _ _ _ _ Gf).trans ((Qd _ _ _ _ Gf).trans g8)
  have q0:w8.cell? ⟨w.heap.size+1,1,none⟩=some (.slice B m d):=by rw[<- hw8];exact(Qd _ _ _ _ Gf).trans ((Qd _ _ _ _ Gf).trans i7)
  have O:∀ (A:Option Addr) (n c:Nat) (l:List Nat),Lim w7 A n c l->Lim w8 A n c l:=λA n c l h=>by
   rw[<- hw8];exact Lim.set_box (Lim.set_box h e0.out (NoLimb.box _ _ _ _) 0 _) (e0.out.set_ 0 _) (NoLimb.box _ _ _ _) 1 _
  have f8:Wd w8 f A7 n7 c7 ZQ:=⟨d9.1,d9.2.1,O _ _ _ _ d9.2.2⟩;have d7:Wd w8 a5 A4 n4 c4 (sg na (U%V)):=⟨d4.1,d4.2.1,O _ _ _ _ d4.2.2⟩;have h5:=O _ _ _ _ h9;have i8:Below w.heap.size w w8:=by rw[<- hw8];exact(n0.setCell (p:=⟨w3.heap.size,0,none⟩) (by simp only[];omega) _).setCell (p:=⟨w3.heap.size,1,none⟩) (by simp only[];omega) _
  have p8:Hid (w4.heap.size<w8.heap.size):=d3.out.lt;have s0:=d3.out.cell 0;have s1:=d3.out.cell 1;simp at s0 s1;clear v0 v1 v2 v3 O hw8 i1 f6 e0 i2 g8 i7 d9 d4;go_wp2_with fail;refine(Ze9 _ _ _ _ _ _ _ _ _ _ _ d7.lim h5 d7.2.1 hm).mono ?_;rintro e w9 ⟨a7,I,A9,n9,c9,n1,rfl,h4⟩;have e1:=d7.sgEq;rw[Zk]at e1;rw[e1,a6.out,j3.out]at h4;rcases h4 with ⟨-,rfl,e3⟩|⟨a2,-⟩
  case inr=>exact absurd g9 Gk
  clear e1;have j4:Hid (Blk _ _ _ _):=Ze a7 l5.out;have k0:Hid (Blk _ _ _ _):=Ze a7 m4.out;have k5:Hid (Blk _ _ _ _):=Ze a7 o0.out;have a4:Hid (Blk _ _ _ _):=Ze a7 d3.out;have d0:=f8.below a7;have o3:=Gs i8 a7;have s0:=a4.out.cell 0;have s1:=a4.out.cell 1;have s2:=a4.out.frozen 0;have s3:=a4.out.frozen 1;simp at s0 s1;go_wp2_with fail;generalize hw10:(w9.setCell ⟨w4.heap.size,0,none⟩ (.bool I)).setCell ⟨w4.heap.size,1,none⟩ (.slice A9 n9 c9)=w10;have y:Hid (Blk w10 (w.heap.size+1+1) 39 #[.bool false,.slice none 0 0]):=by rw[<- hw10];exact(j4.out.far Gf _).far Gf _
  have a1:Hid (Blk w10 (w.heap.size+1+1+1) 39 #[.bool false,.slice none 0 0]):=by rw[<- hw10];exact(k0.out.far Gf _).far Gf _
  have e6:Hid (Blk w10 w3.heap.size 39 #[.bool f,.slice A7 n7 c7]):=by rw[<- hw10];exact(k5.out.far Gf _).far Gf _
  have e7:Hid (Blk w10 w4.heap.size 39 #[.bool I,.slice A9 n9 c9]):=by rw[<- hw10];exact(a4.out.set_ 0 _).set_ 1 _
  have T:∀ (A:Option Addr) (n c:Nat) (l:List Nat),Lim w9 A n c l->Lim w10 A n c l:=λA n c l h=>by
   rw[<- hw10];exact Lim.set_box (Lim.set_box h a4.out (NoLimb.box _ _ _ _) 0 _) (a4.out.set_ 0 _) (NoLimb.box _ _ _ _) 1 _
  have c0:Wd w10 f A7 n7 c7 ZQ:=⟨d0.1,d0.2.1,T _ _ _ _ d0.2.2⟩;have b6:Wd w10 I A9 n9 c9 ZR:=⟨e3.1,e3.2.1,T _ _ _ _ e3.2.2⟩;have g6:Below w.heap.size w w10:=by rw[<- hw10];exact(o3.setCell (p:=⟨w4.heap.size,0,none⟩) (by simp only[];omega) _).setCell (p:=⟨w4.heap.size,1,none⟩) (by simp only[];omega) _
  clear T hw10 s0 s1 s2 s3 f8 d7 d0 e3;have p0:=e6.out.cell 0;have p1:=e6.out.cell 1;have s0:=e7.out.cell 0;have s1:=e7.out.cell 1;simp at p0 p1 s0 s1;have q1:=y.out.cell 0;have q2:=y.out.cell 1;have q3:=y.out.frozen 0;have q4:=y.out.frozen 1;have r1:=a1.out.cell 0;have r2:=a1.out.cell 1;have r3:=a1.out.frozen 0;have r4:=a1.out.frozen 1;simp at q1 q2 r1 r2
  go_region
  go_wp2
  generalize hw12:((((w10.setCell ⟨w.heap.size+1+1,0,none⟩ (.bool f)).setCell ⟨w.heap.size+1+1,1,none⟩ (.slice A7 n7 c7)).setCell ⟨w.heap.size+1+1+1,0,none⟩ (.bool I)).setCell ⟨w.heap.size+1+1+1,1,none⟩ (.slice A9 n9 c9)).drew=w12;have b1:=(y.out.set_ 0 (.bool f)).set_ 1 (.slice A7 n7 c7);have b2:=(a1.out.far (p:=⟨w.heap.size+1+1,0,none⟩) Gf (.bool f)).far (p:=⟨w.heap.size+1+1,1,none⟩) Gf (.slice A7 n7 c7);have b3:Blk w12 (w.heap.size+1+1) 39 #[.bool f,.slice A7 n7 c7]:=by rw[<- hw12];exact(b1.far Gf _).far Gf _
  have b4:Blk w12 (w.heap.size+1+1+1) 39 #[.bool I,.slice A9 n9 c9]:=by rw[<- hw12];exact(b2.set_ 0 _).set_ 1 _
  have j0:Below w.heap.size w w12:=by rw[<- hw12];exact Zh ((((g6.setCell (p:=⟨w.heap.size+1+1,0,none⟩) Gf _).setCell (p:=⟨w.heap.size+1+1,1,none⟩) Gf _).setCell (p:=⟨w.heap.size+1+1+1,0,none⟩) Gf _).setCell (p:=⟨w.heap.size+1+1+1,1,none⟩) Gf _) 1
  have e5:∀ (A:Option Addr) (n c:Nat) (l:List Nat),Lim w10 A n c l->Lim w12 A n c l:=λA n c l h=>by
   rw[<- hw12];exact Lim.set_box (Lim.set_box (Lim.set_box (Lim.set_box h y.out (NoLimb.box _ _ _ _) 0 _) (y.out.set_ 0 _) (NoLimb.box _ _ _ _) 1 _) b2 (NoLimb.box _ _ _ _) 0 _) (b2.set_ 0 _) (NoLimb.box _ _ _ _) 1 _
  have t1:=b3.cell 0;have t2:=b3.cell 1;have t3:=b4.cell 0;have t4:=b4.cell 1;simp at t1 t2 t3 t4;refine bodyPost_ret (v:=.tuple #[.agg #[.bool f,.slice A7 n7 c7],.agg #[.bool I,.slice A9 n9 c9],.int .i64 0]) (by simp[results,Tryz.results76,go_sem,t1,t2,t3,t4]) rfl ?_;exact hfin.out _ _ ⟨j0,_,_,_,_,_,_,_,_,rfl,⟨c0.1,c0.2.1,e5 _ _ _ _ c0.2.2⟩,⟨b6.1,b6.2.1,e5 _ _ _ _ b6.2.2⟩⟩
theorem Zgt(na nb:Bool)(A B:Option Addr)(n c m d:Nat)(za zb:Int)(w:World)(ha:Wd w na A n c za)(hb:Wd w nb B m d zb)(h0:zb≠0) :
    Calls Tryz.prog 76 #[.agg #[.bool na,.slice A n c],.agg #[.bool nb,.slice B m d]] w (Zke w za zb):=by
 rcases Nat.eq_zero_or_pos (za.natAbs%zb.natAbs)with hy|hy;exact Zqf na nb A B n c m d za zb w ha hb h0 hy;by_cases hs:na=nb;exact Zp4 na nb A B n c m d za zb w ha hb h0 hy hs;exact Zoj na nb A B n c m d za zb w ha hb h0 hy hs
theorem Er{G:Prop}(h:G:=by
 rintro e w7 ⟨az,ny,Ay,ky,cy,ns,As,ks,cs,rfl,dw,-⟩;rw[hy.out]at dw;have aU:Below w.heap.size w w7:=aM.trans (az.mono Gk);have dM:=Zd (cf.out.below az);have s8:w4.heap.size+2<=w7.heap.size:=by have:=az.size;omega
 have q2:=Ze az hq.out.1;have q5:=Ze az hq.out.2;clear az c1 c3 aP aQ aX aY aI cS cU cf aM hq;obtain⟨W8,dI,dE,q8,kW,kB,s9⟩:=Zq 39 #[.bool ny,.slice Ay ky cy] aU Gk;replace q2:=kB _ _ _ q2;replace q5:=kB _ _ _ q5;have dY:=Zd (kW _ _ _ _ _ dM.out);have dZ:=Zd (kW _ _ _ _ _ dw);clear kW kB dM dw aU;obtain⟨W9,cB,ct,-,kW,kB,jF⟩:=Zq 39 #[.bool ns,.slice As ks cs] dE Gk;replace q2:=kB _ _ _ q2;replace q5:=kB _ _ _ q5;replace q8:=kB _ _ _ q8;have fD:=Zd (kW _ _ _ _ _ dY.out);have fE:=Zd (kW _ _ _ _ _ dZ.out);clear kW kB dY dZ dE;have c5:=Zd q5.two;have c8:=Zd q8.two;have c2:=Zd q2.four;have hq:=Zd q2;rw[<- cB,<- dI]at c5 c8 c2;rw[<- dI]at cB;clear dI q2 q5 q8;obtain⟨iU,iV,-,-⟩:=c5.out;obtain⟨iX,iY,-,-⟩:=c8.out;obtain⟨iP,iQ,iR,iT,iZ,ja,jb,jc⟩:=c2.out;replace cB:=Zd cB;replace ct:=Zd ct;go_wp2_with fail;rw[cB.out];obtain⟨W,hW,hB,ap,kW,-⟩:=Z5 nx Ax kx cx ny Ay ky cy ct.out Gk hq.out;rw[hW];obtain⟨r0,r1,r2,r3,-⟩:=ap.four;refine bodyPost_ret (v:=.agg #[.bool nx,.slice Ax kx cx,.bool ny,.slice Ay ky cy]) (by simp[results,Tryz.results33,go_sem,r0,r1,r2,r3]) rfl ?_;exact⟨hB,_,_,_,_,_,_,_,_,rfl,kW _ _ _ _ _ fD.out,kW _ _ _ _ _ fE.out⟩):G:=h
theorem CS{G:Prop}(h:G:=by
 have:=Blk.new ((w.alloc (.cells #[.bool na,.slice A n c] 39)).alloc (.cells #[.bool false,.slice B m d] 39)) 41 #[.bool false,.slice none 0 0,.bool false,.slice none 0 0];exact Et):G:=h
theorem CT{G:Prop}(h:G:=by
 have:=(Blk.new (w.alloc (.cells #[.bool na,.slice A n c] 39)) 39 #[.bool false,.slice B m d]).alloc (.cells #[.bool false,.slice none 0 0,.bool false,.slice none 0 0] 41);exact Et):G:=h
theorem Zdl(na:Bool)(A B:Option Addr)(n c m d:Nat)(za zb:Int)(w:World)(ha:Wd w na A n c za)(hb:Wd w false B m d zb)(h0:0<zb) :
    Calls Tryz.prog 33 #[.agg #[.bool na,.slice A n c],.agg #[.bool false,.slice B m d]] w (Zdp w (Qe za zb)):=by
 have b4:=Zd0 ha.small hb.small;have hx:=Zd (Zkf (a:=za) (b:=zb) Gk);have hy:=Zd (Zjy (a:=za) (b:=zb) Gk);have y:=Zd (Zl7 (a:=za) (b:=zb) Gk);have a9:Zgi za zb=(Qn za.natAbs zb.natAbs:Nat):=by unfold Zgi;rw[Gw Gk]
 rw[a9]at hx hy y;have HA:=Zd ha;have HB:=Zd hb;obtain⟨G,hG⟩:=Gz (Qn za.natAbs zb.natAbs);rw[hG]at hx hy y b4
 have HGc:Hid (∀ W:World,Wd W na A n c za->Wd W false B m d zb->Calls Tryz.prog 59 #[.agg #[.bool na,.slice A n c],.agg #[.bool false,.slice B m d]] W (ResW W (G:Int))):=λW h1 h2=>by
  have:=Zmc na false A B n c m d za zb W h1 h2;rw[hG]at this;exact this
 generalize Qe za zb=R at *;clear ha hb hG a9;have O:∀ X Y Z:Obj,Below w.heap.size w (((w.alloc X).alloc Y).alloc Z):=λX Y Z=>(((Qc w.heap.size w).alloc (Qb _) _).alloc Gh _).alloc Gg _;have O:=Zd O;go_in;go_wp2_with fail;have q0:Blk (((w.alloc (.cells #[.bool na,.slice A n c] 39)).alloc (.cells #[.bool false,.slice B m d] 39)).alloc (.cells #[.bool false,.slice none 0 0,.bool false,.slice none 0 0] 41)) w.heap.size 39 #[.bool na,.slice A n c]:=((Qm _ _ _).alloc _).alloc _
 have q1:Blk (((w.alloc (.cells #[.bool na,.slice A n c] 39)).alloc (.cells #[.bool false,.slice B m d] 39)).alloc (.cells #[.bool false,.slice none 0 0,.bool false,.slice none 0 0] 41)) (w.heap.size+1) 39 #[.bool false,.slice B m d]:=by
  exact CT
 have q2:Blk (((w.alloc (.cells #[.bool na,.slice A n c] 39)).alloc (.cells #[.bool false,.slice B m d] 39)).alloc (.cells #[.bool false,.slice none 0 0,.bool false,.slice none 0 0] 41)) (w.heap.size+1+1) 41 #[.bool false,.slice none 0 0,.bool false,.slice none 0 0]:=by
  exact CS
 refine(HGc.out _ (((HA.out.alloc _).alloc _).alloc _) (((HB.out.alloc _).alloc _).alloc _)).mono ?_;rintro e w1 ⟨h,ng,Ag,kg,cg,code,rfl,hR⟩;rcases hR with ⟨-,rfl,V⟩|⟨a7,-⟩
 case inr=>exact absurd a7 Gk
 have u:Below w.heap.size w w1:=(O.out _ _ _).trans (h.mono Gg);have a4:=Zd (HA.out.below u);have a6:=Zd (HB.out.below u);have s1:w.heap.size+1+1<w1.heap.size:=by have:=h.size;simp at this;omega
 replace q0:=Ze h q0;replace q1:=Ze h q1;replace q2:=Ze h q2;have a2:=Zd V;have s2:w.heap.size+1+1<w1.heap.size:=s1;clear h V;obtain⟨W3,o,b2,q3,kW,kB,s3⟩:=Zq 39 #[.bool ng,.slice Ag kg cg] u Gk;replace q0:=kB _ _ _ q0;replace q1:=kB _ _ _ q1;replace q2:=kB _ _ _ q2;have U:=Zd (kW _ _ _ _ _ a4.out);have a0:=Zd (kW _ _ _ _ _ a6.out);have J:=Zd (kW _ _ _ _ _ a2.out);have s4:w.heap.size+1+1<w1.heap.size:=s2;clear kW kB a4 a6 a2 u;have c0:=Zd q0.two;have c1:=Zd q1.two;have c3:=Zd q3.two;rw[<- o]at c0 c1 c3;obtain⟨b3,b5,-,-⟩:=c0.out;obtain⟨aP,aQ,-,-⟩:=c1.out;obtain⟨aX,aY,-,-⟩:=c3.out;have hq:=Zd (Qa q0 (Qa q1 (Qa q2 q3)));clear q0 q1 q2 q3;replace o:=Zd o;go_wp2_with fail;rw[o.out];refine(Zgt na ng A Ag n c kg cg za G _ U.out J.out y.out).mono ?_;rintro e w4 ⟨f,nx,Ax,kx,cx,nr,Ar,kr,cr,rfl,C,-⟩;rw[hx.out]at C;have a3:Below w.heap.size w w4:=b2.trans (f.mono Gk);have b0:=Zd (a0.out.below f);have b1:=Zd (J.out.below f);have s5:w1.heap.size+1<=w4.heap.size:=by have:=f.size;omega
 have q1:=Ze f hq.out.2.1;have q2:=Ze f hq.out.2.2.1;have q3:=Ze f hq.out.2.2.2;clear f c0 c1 c3 b3 b5 aP aQ aX aY o U a0 J b2 hq;obtain⟨W5,I,a5,q5,kW,kB,s6⟩:=Zq 39 #[.bool nx,.slice Ax kx cx] a3 Gk;replace q1:=kB _ _ _ q1;replace q2:=kB _ _ _ q2;replace q3:=kB _ _ _ q3;have a1:=Zd (kW _ _ _ _ _ b0.out);have T:=Zd (kW _ _ _ _ _ b1.out);have a8:=Zd (kW _ _ _ _ _ C);clear kW kB b0 b1 C a3;obtain⟨W6,aI,aM,-,kW,kB,s7⟩:=Zq 39 #[.bool nr,.slice Ar kr cr] a5 Gk;replace q1:=kB _ _ _ q1;replace q2:=kB _ _ _ q2;replace q3:=kB _ _ _ q3;replace q5:=kB _ _ _ q5;have cS:=Zd (kW _ _ _ _ _ a1.out);have cU:=Zd (kW _ _ _ _ _ T.out);have cf:=Zd (kW _ _ _ _ _ a8.out);clear kW kB a1 T a8 a5;have c1:=Zd q1.two;have c3:=Zd q3.two;rw[<- aI,<- I]at c1 c3;obtain⟨aP,aQ,-,-⟩:=c1.out;obtain⟨aX,aY,-,-⟩:=c3.out;have hq:=Zd (Qa q2 q5);clear q1 q2 q3 q5;rw[<- I]at aI;replace aI:=Zd aI;clear I;go_wp2_with fail;rw[aI.out];refine(Zgt false ng B Ag m d kg cg zb G _ cS.out cU.out y.out).mono ?_;exact Er
theorem En{G:Prop}(h:G:=by
 have q2:=Ze az hq.out.1;have q5:=Ze az hq.out.2;clear az c1 c3 aP aQ aX aY aI cS cU cf aM hq;obtain⟨W8,dI,dE,q8,kW,kB,s9⟩:=Zq 39 #[.bool ny,.slice Ay ky cy] aU Gk;replace q2:=kB _ _ _ q2;replace q5:=kB _ _ _ q5;have dY:=Zd (kW _ _ _ _ _ dM.out);have dZ:=Zd (kW _ _ _ _ _ dw);clear kW kB dM dw aU;obtain⟨W9,cB,ct,-,kW,kB,jF⟩:=Zq 39 #[.bool ns,.slice As ks cs] dE Gk;replace q2:=kB _ _ _ q2;replace q5:=kB _ _ _ q5;replace q8:=kB _ _ _ q8;have fD:=Zd (kW _ _ _ _ _ dY.out);have fE:=Zd (kW _ _ _ _ _ dZ.out);clear kW kB dY dZ dE;have c5:=Zd q5.two;have c8:=Zd q8.two;have c2:=Zd q2.four;have hq:=Zd q2;rw[<- cB,<- dI]at c5 c8 c2;rw[<- dI]at cB;clear dI q2 q5 q8;obtain⟨iU,iV,-,-⟩:=c5.out;obtain⟨iX,iY,-,-⟩:=c8.out;obtain⟨iP,iQ,iR,iT,iZ,ja,jb,jc⟩:=c2.out;replace cB:=Zd cB;replace ct:=Zd ct;go_wp2_with fail;rw[cB.out];obtain⟨W,hW,hB,ap,kW,-⟩:=Z5 nx Ax kx cx ny Ay ky cy ct.out Gk hq.out;rw[hW];obtain⟨r0,r1,r2,r3,-⟩:=ap.four;refine bodyPost_ret (v:=.agg #[.bool nx,.slice Ax kx cx,.bool ny,.slice Ay ky cy]) (by simp[results,Tryz.results157,go_sem,r0,r1,r2,r3]) rfl ?_;exact⟨hB,_,_,_,_,_,_,_,_,rfl,kW _ _ _ _ _ fD.out,kW _ _ _ _ _ fE.out⟩):G:=h
theorem Zja(na:Bool)(A B:Option Addr)(n c m d:Nat)(za zb:Int)(w:World)(ha:Wd w na A n c za)(hb:Wd w false B m d zb)(h0:0<zb) :
    Calls Tryz.prog 157 #[.agg #[.bool na,.slice A n c],.agg #[.bool false,.slice B m d]] w (Zdp w (Qe za zb)):=by
 have b9:=Zd0 ha.small hb.small;have hx:=Zd (Zkf (a:=za) (b:=zb) Gk);have hy:=Zd (Zjy (a:=za) (b:=zb) Gk);have C:=Zd (Zl7 (a:=za) (b:=zb) Gk);have b4:Zgi za zb=(Qn za.natAbs zb.natAbs:Nat):=by unfold Zgi;rw[Gw Gk]
 rw[b4]at hx hy C;have HA:=Zd ha;have HB:=Zd hb;obtain⟨G,hG⟩:=Gz (Qn za.natAbs zb.natAbs);rw[hG]at hx hy C b9
 have HGc:Hid (∀ W:World,Wd W na A n c za->Wd W false B m d zb->Calls Tryz.prog 151 #[.agg #[.bool na,.slice A n c],.agg #[.bool false,.slice B m d]] W (ResW W (G:Int))):=λW h1 h2=>by
  have:=Zk2 na false A B n c m d za zb W h1 h2;rw[hG]at this;exact this
 generalize Qe za zb=R at *;clear ha hb hG b4;have U:∀ X Y Z:Obj,Below w.heap.size w (((w.alloc X).alloc Y).alloc Z):=λX Y Z=>(((Qc w.heap.size w).alloc (Qb _) _).alloc Gh _).alloc Gg _;have U:=Zd U;go_in;go_wp2_with fail;have q0:Blk (((w.alloc (.cells #[.bool na,.slice A n c] 39)).alloc (.cells #[.bool false,.slice B m d] 39)).alloc (.cells #[.bool false,.slice none 0 0,.bool false,.slice none 0 0] 41)) w.heap.size 39 #[.bool na,.slice A n c]:=((Qm _ _ _).alloc _).alloc _
 have q1:Blk (((w.alloc (.cells #[.bool na,.slice A n c] 39)).alloc (.cells #[.bool false,.slice B m d] 39)).alloc (.cells #[.bool false,.slice none 0 0,.bool false,.slice none 0 0] 41)) (w.heap.size+1) 39 #[.bool false,.slice B m d]:=by
  exact CT
 have q2:Blk (((w.alloc (.cells #[.bool na,.slice A n c] 39)).alloc (.cells #[.bool false,.slice B m d] 39)).alloc (.cells #[.bool false,.slice none 0 0,.bool false,.slice none 0 0] 41)) (w.heap.size+1+1) 41 #[.bool false,.slice none 0 0,.bool false,.slice none 0 0]:=by
  exact CS
 refine(HGc.out _ (((HA.out.alloc _).alloc _).alloc _) (((HB.out.alloc _).alloc _).alloc _)).mono ?_;rintro e w1 ⟨o,ng,Ag,kg,cg,code,rfl,hR⟩;rcases hR with ⟨-,rfl,a2⟩|⟨b2,-⟩
 case inr=>exact absurd b2 Gk
 have u:Below w.heap.size w w1:=(U.out _ _ _).trans (o.mono Gg);have a7:=Zd (HA.out.below u);have b0:=Zd (HB.out.below u);have s1:w.heap.size+1+1<w1.heap.size:=by have:=o.size;simp at this;omega
 replace q0:=Ze o q0;replace q1:=Ze o q1;replace q2:=Ze o q2;obtain⟨T,V,-,-⟩:=q0.two;obtain⟨aP,aQ,-,-⟩:=q1.two;have hq:=Zd (Qa q0 (Qa q1 q2));clear q0 q1 q2 o;go_wp2_with fail;refine(Zd5 ng Ag kg cg _).mono ?_;rintro e w2 ⟨rfl,f⟩;have a9:Below w.heap.size w w2:=Gs u f;have b5:=Zd (a7.out.below f);have b1:=Zd (b0.out.below f);have a5:=Zd (a2.below f);have s2:w.heap.size+1+1<w2.heap.size:=by have:=f.size;omega
 have q0:=Ze f hq.out.1;have q1:=Ze f hq.out.2.1;have q2:=Ze f hq.out.2.2;clear T V aP aQ u f a2 a7 b0 hq;obtain⟨W3,y,b8,q3,kW,kB,s3⟩:=Zq 39 #[.bool ng,.slice Ag kg cg] a9 Gk;replace q0:=kB _ _ _ q0;replace q1:=kB _ _ _ q1;replace q2:=kB _ _ _ q2;have a1:=Zd (kW _ _ _ _ _ b5.out);have a3:=Zd (kW _ _ _ _ _ b1.out);have O:=Zd (kW _ _ _ _ _ a5.out);have s4:w.heap.size+1+1<w2.heap.size:=s2;clear kW kB b5 b1 a5 a9;have c0:=Zd q0.two;have c1:=Zd q1.two;have c3:=Zd q3.two;rw[<- y]at c0 c1 c3;obtain⟨T,V,-,-⟩:=c0.out;obtain⟨aP,aQ,-,-⟩:=c1.out;obtain⟨aX,aY,-,-⟩:=c3.out;have hq:=Zd (Qa q0 (Qa q1 (Qa q2 q3)));clear q0 q1 q2 q3;replace y:=Zd y;go_wp2_with fail;rw[y.out];refine(Zgb na ng A Ag n c kg cg za G _ a1.out O.out C.out).mono ?_;rintro e w4 ⟨h,nx,Ax,kx,cx,nr,Ar,kr,cr,rfl,I,-⟩;rw[hx.out]at I;have a6:Below w.heap.size w w4:=b8.trans (h.mono Gk);have b6:=Zd (a3.out.below h);have b7:=Zd (O.out.below h);have s5:w2.heap.size+1<=w4.heap.size:=by have:=h.size;omega
 have q1:=Ze h hq.out.2.1;have q2:=Ze h hq.out.2.2.1;have q3:=Ze h hq.out.2.2.2;clear h c0 c1 c3 T V aP aQ aX aY y a1 a3 O b8 hq;obtain⟨W5,J,a8,q5,kW,kB,s6⟩:=Zq 39 #[.bool nx,.slice Ax kx cx] a6 Gk;replace q1:=kB _ _ _ q1;replace q2:=kB _ _ _ q2;replace q3:=kB _ _ _ q3;have a4:=Zd (kW _ _ _ _ _ b6.out);have a0:=Zd (kW _ _ _ _ _ b7.out);have b3:=Zd (kW _ _ _ _ _ I);clear kW kB b6 b7 I a6;obtain⟨W6,aI,aM,-,kW,kB,s7⟩:=Zq 39 #[.bool nr,.slice Ar kr cr] a8 Gk;replace q1:=kB _ _ _ q1;replace q2:=kB _ _ _ q2;replace q3:=kB _ _ _ q3;replace q5:=kB _ _ _ q5;have cS:=Zd (kW _ _ _ _ _ a4.out);have cU:=Zd (kW _ _ _ _ _ a0.out);have cf:=Zd (kW _ _ _ _ _ b3.out);clear kW kB a4 a0 b3 a8;have c1:=Zd q1.two;have c3:=Zd q3.two;rw[<- aI,<- J]at c1 c3;obtain⟨aP,aQ,-,-⟩:=c1.out;obtain⟨aX,aY,-,-⟩:=c3.out;have hq:=Zd (Qa q2 q5);clear q1 q2 q3 q5;rw[<- J]at aI;replace aI:=Zd aI;clear J;go_wp2_with fail;rw[aI.out];refine(Zgb false ng B Ag m d kg cg zb G _ cS.out cU.out C.out).mono ?_;rintro e w7 ⟨az,ny,Ay,ky,cy,ns,As,ks,cs,rfl,dw,-⟩;rw[hy.out]at dw;have aU:Below w.heap.size w w7:=aM.trans (az.mono Gk);have dM:=Zd (cf.out.below az);have s8:w4.heap.size+2<=w7.heap.size:=by have:=az.size;omega
 exact En
theorem Zfj(w:World) :
    Calls Tryz.prog 148 #[.int .i64 0] w λe w'=>e=.returned (.tuple #[])/\w'=w:=by
 go_in;go_wp2_with fail
 go_end0
 exact⟨rfl,rfl⟩
theorem Zg8(p:Addr)(w:World) :
    CallsD Tryz.prog 147 #[.pointer (some p)] .returning w λe u' w'=>e=.returned (.tuple #[])/\u'=.returning/\w'=w:=by
 refine callsD_of_wpS Tryz.func147 rfl λc₀ cs hu=>?_;apply wpS_seq;apply wpS_region;simp[wpOpsS,go_sem,recoverD,hu,Tryz.ntmps147,Exit.thenS];rw[show (#[Value.pointer (some p)]++(Qf 14 undef).setIfInBounds 4 Value.nilIface)=#[Value.pointer (some p),undef,undef,undef,undef,Value.nilIface,undef,undef,undef,undef,undef,undef,undef,undef,undef] from rfl];refine wpS_of_wp ?_;go_wp2_with fail;cases c₀
 simp_all [bodyPostS,results,Tryz.results147]
theorem Zgj(na:Bool)(A B:Option Addr)(n c m d:Nat)(za zb:Int)(w:World)(ha:Wd w na A n c za)(hb:Wd w false B m d zb)(h0:0<zb) :
    Calls Tryz.prog 113 #[.agg #[.bool na,.slice A n c],.agg #[.bool false,.slice B m d]] w (Zev w (Qe za zb)):=by
 have c9:0<m:=by rw[<- hb.lim.len];exact length_digits_pos.2 Gk
 have b4:((m:Int) == 0)=false:=by simp;omega
 have hm:=hb.2.1;have HA:=Zd ha;have HB:=Zd hb;clear ha hb;obtain⟨W0,U,C,hq,s0⟩:=Zfr w 39 #[.bool na,.slice A n c] 39 #[.bool false,.slice B m d] 41 #[.bool false,.slice none 0 0,.bool false,.slice none 0 0] 26 #[.int .i64 0];replace U:=Zd U;replace hq:=Zd hq
 go_enter_defers Tryz.func113,Tryz.ntmps113
 go_wp2_with fail;rw[U.out];have Y:=Zd (HA.out.below C);have a5:=Zd (HB.out.below C);clear HA HB U;refine(Zpp na A n c _ W0 Y.out.lim).mono ?_;rw[Y.out.ok];rintro e w1 ⟨rfl,o⟩;have a0:Below w.heap.size w w1:=Gs C o;have s1:W0.heap.size<=w1.heap.size:=o.size;have a8:=Zd (Y.out.below o);have V:=Zd (a5.out.below o);obtain⟨q0,q1,q2,q3⟩:=hq.out;replace q0:=Ze o q0;replace q1:=Ze o q1;replace q2:=Ze o q2;replace q3:=Ze o q3;obtain⟨J,O,-,-⟩:=q0.two;obtain⟨y,I,-,-⟩:=q1.two;clear hq o Y a5 C;have hq:=Zd (Qa q0 (Qa q1 (Qa q2 q3)));clear q0 q1 q2 q3;simp only[Zfq,if_true];go_wp2_with fail;refine(Zfj w1).mono ?_;rintro e w1 ⟨rfl,rfl⟩;go_wp2_with fail;refine(Zpp false B m d _ w1 V.out.lim).mono ?_;rw[V.out.ok];rintro e w2 ⟨rfl,h⟩;have a2:Below w.heap.size w w2:=Gs a0 h;have s2:w1.heap.size<=w2.heap.size:=h.size;have b3:=Zd (a8.out.below h);have b1:=Zd (V.out.below h);obtain⟨q0,q1,q2,q3⟩:=hq.out;replace q0:=Ze h q0;replace q1:=Ze h q1;replace q2:=Ze h q2;replace q3:=Ze h q3;clear J O y I;obtain⟨J,O,-,-⟩:=q0.two;obtain⟨y,I,-,-⟩:=q1.two;clear hq h a8 V a0;have hq:=Zd (Qa q0 (Qa q1 (Qa q2 q3)));clear q0 q1 q2 q3;simp only[Zfq,if_true];go_wp2_with fail;refine(Zfj w2).mono ?_;rintro e w2 ⟨rfl,rfl⟩;go_wp2_with fail;refine(Zkc false B m d w2 Gk false b4).mono ?_
 rintro e w3 ⟨rfl,u⟩;have a1:Below w.heap.size w w3:=Gs a2 u;have s3:w2.heap.size<=w3.heap.size:=u.size;have a4:=Zd (b3.out.below u);have a6:=Zd (b1.out.below u);obtain⟨q0,q1,q2,q3⟩:=hq.out;replace q0:=Ze u q0;replace q1:=Ze u q1;replace q2:=Ze u q2;replace q3:=Ze u q3;clear J O y I;obtain⟨J,O,-,-⟩:=q0.two;obtain⟨y,I,-,-⟩:=q1.two;clear hq u b3 b1 a2;have hq:=Zd (Qa q2 q3);clear q0 q1 q2 q3;go_wp2_with fail;refine(Zja na A B n c m d za zb w3 a4.out a6.out h0).mono ?_;rintro e w4 ⟨T,nx,Ax,kx,cx,ny,Ay,ky,cy,rfl,hF⟩;have c0:Below w.heap.size w w4:=Gs a1 T;have s4:w3.heap.size<=w4.heap.size:=T.size;have q2:=Ze T hq.out.1;have q3:=Ze T hq.out.2;clear hq T a4 a6 a1 J O y I;have c2:=Zd q2.four;have c3:=q3.cell 0;have f3:=q3.frozen 0;simp at c3;obtain⟨c7,c5,b9,c4,c1,b5,b6,b8⟩:=c2.out;have hq:=Zd (Qa q2 q3);clear q2 q3;go_wp2_with fail;obtain⟨W5,a7,a9,q2,kW,kB,s5⟩:=Z5 nx Ax kx cx ny Ay ky cy c0 Gk hq.out.1;have q3:=kB _ _ _ Gk hq.out.2;have b2:=Zd (kW _ _ _ _ _ hF.1);have b0:=Zd (kW _ _ _ _ _ hF.2);rw[a7];clear kW kB c7 c5 b9 c4 c3 f3 c1 b5 b6 b8 hq hF;obtain⟨W6,a3,c6,q3,kW,kB,s6⟩:=Zak 0 a9 Gk q3;replace q2:=kB _ _ _ Gk q2;have c8:=Zd (kW _ _ _ _ _ b2.out);have b7:=Zd (kW _ _ _ _ _ b0.out);rw[a3];obtain⟨r0,r1,r2,r3,-⟩:=q2.four;have r4:=q3.cell 0;simp at r4
 clear kW kB a9 b2 b0 a7 a3;refine leaves_cons (f:=147) (args:=#[.pointer (some ⟨w.heap.size+1+1+1,0,none⟩)]) Gh Gd ?_;refine(Zg8 _ _).mono ?_;rintro e u' w'' ⟨rfl,rfl,rfl⟩;refine⟨.tuple #[.agg #[.bool nx,.slice Ax kx cx,.bool ny,.slice Ay ky cy],.int .i64 0],by simp[results,Tryz.results113,go_sem,r0,r1,r2,r3,r4],?_⟩;exact⟨c6,_,_,_,_,_,_,_,_,rfl,c8.out,b7.out⟩
theorem Ca{G:Prop}(h:G:=by
 refine Ze ab ((Blk.alloc (Blk.alloc ?_ _) _));have:=Blk.new (w.alloc (.cells #[.bool na,.slice A n c] 39)) 39 #[.bool nb,.slice B m d];exact Et):G:=h
theorem Zjd(na nb:Bool)(A B:Option Addr)(n c m d:Nat)(za zb:Int)(w:World)(ha:Wd w na A n c za)(hb:Wd w nb B m d zb) :
    Calls Tryz.prog 133 #[.agg #[.bool na,.slice A n c],.agg #[.bool nb,.slice B m d]] w (ResW w (za*zb)):=by
 have aS:=ha.lim;have aG:=hb.lim;have hn:=ha.2.1;have hm:=hb.2.1;have C:∀ X Y Z V:Obj,Below w.heap.size w ((((w.alloc X).alloc Y).alloc Z).alloc V):=λX Y Z V=>((((Qc w.heap.size w).alloc (Qb _) _).alloc Gh _).alloc Gg _).alloc Gg _
 have hW:∀ X Y Z t,WL ((((w.alloc X).alloc Y).alloc Z).alloc (.cells #[.bool na,.slice A n c,.bool nb,.slice B m d] t)) (some ⟨w.heap.size+1+1+1,0,none⟩) 2 2 [⟨na,A,n,c,digits za.natAbs⟩,⟨nb,B,m,d,digits zb.natAbs⟩]:=λX Y Z t=>by
  exact Cf
 have hW:=Zd hW;have C:=Zd C;have y:Hid (okW na (digits za.natAbs)=true/\okW nb (digits zb.natAbs)=true):=⟨ha.ok,hb.ok⟩;have a2:=Zd ha.sgEq;have a3:=Zd hb.sgEq;clear ha hb;go_in;go_wp2_with fail;refine(Zdo (hW.out _ _ _ _) (by have:=y.out;simp[WE.ok,this])).mono ?_;rintro e w1 ⟨rfl,ab⟩;obtain⟨u,U⟩:=Zc1 ab;have a6:w.heap.size+1+1+1<w1.heap.size:=by have:=ab.size;simp at this;omega
 have o:Below w.heap.size w w1:=(C.out _ _ _ _).trans (ab.mono Gg);have g0:w1.cell? ⟨w.heap.size,0,none⟩=some (.bool na):=by simp[u,go_sem]
 have g1:w1.cell? ⟨w.heap.size,1,none⟩=some (.slice A n c):=by simp[u,go_sem]
 have g2:w1.cell? ⟨w.heap.size+1,0,none⟩=some (.bool nb):=by simp[u,go_sem]
 have g3:w1.cell? ⟨w.heap.size+1,1,none⟩=some (.slice B m d):=by simp[u,go_sem]
 have gf:w1.frozen? ⟨w.heap.size+1,0,none⟩=false:=by simp[U,go_sem]
 have gB:Blk w1 (w.heap.size+1) 39 #[.bool nb,.slice B m d]:=by
  exact Ca
 have g7:Blk w1 (w.heap.size+1+1) 39 #[.bool false,.slice none 0 0]:=by
  refine Ze ab (Blk.alloc ?_ _);exact Ev
 have O:=aS.below o;have J:=aG.below o;have HB:=Zd gB;clear gB u U;have g5:=g7.cell 0;have g6:=g7.cell 1;have g8:=g7.frozen 0;have g9:=g7.frozen 1;simp at g5 g6;go_wp2_with fail
 go_region_held3 (λw'=>w'.cell? ⟨w.heap.size,0,none⟩=some (.bool na)/\w'.cell? ⟨w.heap.size,1,none⟩=some (.slice A n c)/\w'.cell? ⟨w.heap.size+1,0,none⟩=some (.bool nb)/\w'.cell? ⟨w.heap.size+1,1,none⟩=some (.slice B m d))
  (((try dsimp only);(repeat' apply Qa);all_goals (first|go_keep|(simp[*,go_sem];done))))
  (first
   | (go_at_call 178;refine(Zx2 _ _ _ _ _ _ _ _ _ (by exact O) (by exact J) Gk Gk).mono ?_;rintro e w2 ⟨A2,n2,c2,l2,rfl,a4,a1,f⟩;have k0:=Zc f g0;have k1:=Zc f g1;have j0:=Zc f g2;have k2:=Zc f g3;have k3:=Zc f g5;have k4:=Zc f g6;have k5:=Zo f g5 g8;have k6:=Zo f g6 g9;have k7:=Ze f g7)
   | (go_at_call 158;refine(Zcb _ _ _ _ _ _ (by exact a4)).mono ?_;rintro e w3 ⟨h,T,A3,n3,c3,I,rfl,a0⟩;have m0:=Zc h k0;have m1:=Zc h k1;have i0:=Zc h j0;have m2:=Zc h k2;have m3:=Zc h k3;have m4:=Zc h k4;have m5:=Zo h k3 k5;have m6:=Zo h k4 k6;have m7:=Ze h k7))
 have a5:Below w.heap.size w w3:=(o.trans ((Zv f).mono o.size)).trans (h.mono (Nat.le_trans o.size (Zv f).size))
 go_wp2
 have HZ:sg (na != nb) (val l2)=za*zb:=by
  have h1:=a2.out;have h2:=a3.out;rw[a1.2,Z0o,h1,h2]
 refine bodyPost_ret (v:=.tuple #[.agg #[.bool T,.slice A3 n3 c3],.int .i64 I]) (by simp[results,Tryz.results133,go_sem,m3,m4]) rfl ?_;exact ResW.box (HZ▸a0) a5 Gk m7
theorem Ff{G:Prop}(h:G:=by
 exact ResW.box (HZ▸dH) av Gk HM.out):G:=h
theorem Zus(na nb:Bool)(A B:Option Addr)(n c m d:Nat)(za zb:Int)(w:World)(ha:Wd w na A n c za)(hb:Wd w nb B m d zb) :
    Calls Tryz.prog 120 #[.agg #[.bool na,.slice A n c],.agg #[.bool nb,.slice B m d]] w (ResW w (za-zb)):=by
 have aS:=ha.lim;have aG:=hb.lim;have hn:=ha.2.1;have hm:=hb.2.1;have y:∀ X Y Z V:Obj,Below w.heap.size w ((((w.alloc X).alloc Y).alloc Z).alloc V):=λX Y Z V=>((((Qc w.heap.size w).alloc (Qb _) _).alloc Gh _).alloc Gg _).alloc Gg _
 have hW:∀ X Y Z t,WL ((((w.alloc X).alloc Y).alloc Z).alloc (.cells #[.bool na,.slice A n c,.bool nb,.slice B m d] t)) (some ⟨w.heap.size+1+1+1,0,none⟩) 2 2 [⟨na,A,n,c,digits za.natAbs⟩,⟨nb,B,m,d,digits zb.natAbs⟩]:=λX Y Z t=>by
  exact Cf
 have hW:=Zd hW;have y:=Zd y;have u:Hid (okW na (digits za.natAbs)=true/\okW nb (digits zb.natAbs)=true):=⟨ha.ok,hb.ok⟩;have a0:=Zd ha.sgEq;have a1:=Zd hb.sgEq;clear ha hb;go_in;go_wp2_with fail;refine(Zdo (hW.out _ _ _ _) (by have:=u.out;simp[WE.ok,this])).mono ?_;rintro e w1 ⟨rfl,ab⟩;obtain⟨f,U⟩:=Zc1 ab;have a2:w.heap.size+1+1+1<w1.heap.size:=by have:=ab.size;simp at this;omega
 have h:Below w.heap.size w w1:=(y.out _ _ _ _).trans (ab.mono Gg);have g0:w1.cell? ⟨w.heap.size,0,none⟩=some (.bool na):=by simp[f,go_sem]
 have g1:w1.cell? ⟨w.heap.size,1,none⟩=some (.slice A n c):=by simp[f,go_sem]
 have g2:w1.cell? ⟨w.heap.size+1,0,none⟩=some (.bool nb):=by simp[f,go_sem]
 have g3:w1.cell? ⟨w.heap.size+1,1,none⟩=some (.slice B m d):=by simp[f,go_sem]
 have gf:w1.frozen? ⟨w.heap.size+1,0,none⟩=false:=by simp[U,go_sem]
 have gB:Blk w1 (w.heap.size+1) 39 #[.bool nb,.slice B m d]:=by
  exact Ca
 have g7:Blk w1 (w.heap.size+1+1) 39 #[.bool false,.slice none 0 0]:=by
  refine Ze ab (Blk.alloc ?_ _);exact Ev
 have I:=aS.below h;have C:=aG.below h;have HB:=Zd gB;clear gB f U;have J:w.heap.size<=(w1.setCell ⟨w.heap.size+1,0,none⟩ (.bool (!nb))).heap.size:=by simp;omega
 go_wp2_with fail;refine(Zwu _ _ _ _ _ _ _ _ _ _ _ (by exact I.set_box HB.out (NoLimb.box _ _ _ _) _ _) (by exact C.set_box HB.out (NoLimb.box _ _ _ _) _ _) hn hm).mono ?_;rintro e w2 ⟨T,O,A2,n2,c2,o,rfl,dH⟩;have av:Below w.heap.size w w2:=(h.setCell (p:=⟨w.heap.size+1,0,none⟩) Gh _).trans (T.mono J);have m7:=Ze T (g7.far Gh _);have m3:=m7.cell 0;have m4:=m7.cell 1;have m5:=m7.frozen 0;have m6:=m7.frozen 1;simp at m3 m4;have HM:=Zd m7;clear m7;go_wp2_with fail
 have HZ:sg na za.natAbs+sg (!nb) zb.natAbs=za-zb:=by
  have h1:=a0.out;have h2:=a1.out;rw[Zk]at h1 h2;rw[Zum,h1,h2];omega
 refine bodyPost_ret (v:=.tuple #[.agg #[.bool O,.slice A2 n2 c2],.int .i64 o]) (by simp[results,Tryz.results120,go_sem,m3,m4]) rfl ?_;exact Ff
theorem Zao(w:World)(t0:TypeId)(c0:Array Value) :
    ∃ W,w.alloc (.cells c0 t0)=W/\Below w.heap.size w W/\Blk W w.heap.size t0 c0/\W.heap.size=w.heap.size+1:=
 ⟨_,rfl,(Qc w.heap.size w).alloc (Qb _) _,Qm _ _ _,by simp⟩
theorem Ix{G:Prop}(h:G:=by
 exact⟨aJ,_,_,_,_,_,_,_,_,rfl,kW _ _ _ _ _ hF.out.1,kW _ _ _ _ _ hF.out.2⟩):G:=h
theorem Zri(x y:Int)(w:World)(hx1:-9223372036854775808<=x)(hx2:x<=9223372036854775807)(h0:0<y)(hy:y<=9223372036854775807) :
    Calls Tryz.prog 69 #[.int .i64 x,.int .i64 y] w (Zev w (Qe x y)):=by
 obtain⟨W0,h,J,hq,s0⟩:=Zao w 41 #[.bool false,.slice none 0 0,.bool false,.slice none 0 0];replace h:=Zd h;replace hq:=Zd hq;go_in;go_wp2_with fail;rw[h.out];clear h;refine(Zb3 x W0 hx1 hx2).mono ?_;rintro e w1 ⟨o,na,A,n,c,rfl,hA⟩;have C:Below w.heap.size w w1:=J.trans (o.mono Gk);have s1:W0.heap.size<=w1.heap.size:=o.size;replace hq:=Gm o hq;replace hA:=Zd hA;clear o J;go_wp2_with fail;refine(Zb3 y w1 Gk hy).mono ?_;rintro e w2 ⟨f,nb,B,m,d,rfl,hB⟩;have I:Below w.heap.size w w2:=C.trans (f.mono Gk);have s2:w1.heap.size<=w2.heap.size:=f.size;replace hq:=Gm f hq;replace hA:=Zd (hA.out.below f);have hn:nb=false:=by rw[hB.1];simp;omega
 subst hn;replace hB:=Zd hB;clear f C;go_wp2_with fail;refine(Zgj na A B n c m d x y w2 hA.out hB.out h0).mono ?_;rintro e w3 ⟨u,nx,Ax,kx,cx,ny,Ay,ky,cy,rfl,hF⟩;have T:Below w.heap.size w w3:=I.trans (u.mono Gk);have s3:w2.heap.size<=w3.heap.size:=u.size;replace hq:=Gm u hq;obtain⟨a4,a2,a3,a1,a0,U,Y,V⟩:=hq.out.four;clear u I;replace hF:=Zd hF;go_wp2_with fail;obtain⟨W5,O,aJ,q2,kW,-,s5⟩:=Z5 nx Ax kx cx ny Ay ky cy T Gk hq.out;rw[O];obtain⟨r0,r1,r2,r3,-⟩:=q2.four;refine bodyPost_ret (v:=.tuple #[.agg #[.bool nx,.slice Ax kx cx,.bool ny,.slice Ay ky cy],.int .i64 0]) (by simp[results,Tryz.results69,go_sem,r0,r1,r2,r3]) rfl ?_;exact Ix
theorem Zfe(na nb na' nb':Bool)(A B A' B':Option Addr)(n c m d n' c' m' d':Nat)(a b:Rat)(w:World)(ha:Fr w na A n c nb B m d a)(hb:Fr w na' A' n' c' nb' B' m' d' b)(hs:(a.num*b.den).natAbs<pw 4096) :
    Calls Tryz.prog 149 #[.agg #[.bool na,.slice A n c,.bool nb,.slice B m d],.agg #[.bool na',.slice A' n' c',.bool nb',.slice B' m' d']] w (NumW w (a.num*b.den)):=by
 obtain⟨W0,f,h,⟨q0,q1,q2⟩,s0⟩:=Zb2 w 41 #[.bool na,.slice A n c,.bool nb,.slice B m d] 41 #[.bool na',.slice A' n' c',.bool nb',.slice B' m' d'] 39 #[.bool false,.slice none 0 0];have hA:=Zd (ha.1.below h);have hD:=Zd (hb.2.below h);replace hs:=Zd hs;clear ha hb;obtain⟨I,O,-⟩:=q0.four;obtain⟨-,-,y,C,-⟩:=q1.four;rw[<- f]at I O y C;replace f:=Zd f;go_in;go_wp2_with fail;rw[f.out];clear f I O y C;refine(Zjd na nb' A B' n c m' d' a.num b.den W0 hA.out hD.out).mono ?_;rintro e w1 ⟨u,np,P,k,q,code,rfl,hR⟩;rcases hR with ⟨-,rfl,hP⟩|⟨J,-⟩
 case inr=>exact absurd J (by have:=hs.out;omega)
 have T:Below w.heap.size w w1:=h.trans (u.mono Gk);have s1:W0.heap.size<=w1.heap.size:=u.size;replace q2:=Ze u q2;clear u h q0 q1;replace q2:=Zd q2;replace hP:=Zd hP;go_wp2_with fail;refine(Zd5 np P k q w1).mono ?_;rintro e w2 ⟨rfl,o⟩;have Y:Below w.heap.size w w2:=T.trans (o.mono Gk);have s2:w1.heap.size<=w2.heap.size:=o.size;replace q2:=Ze o q2.out;replace hP:=hP.out.below o;obtain⟨c0,c1,f0,f1⟩:=q2.two;replace q2:=Zd q2;replace hP:=Zd hP;go_wp2_with fail;obtain⟨W5,U,V,q3,kW,-,s5⟩:=Zaz np P k q Y Gk q2.out;rw[U];obtain⟨r0,r1,-⟩:=q3.two;refine bodyPost_ret (v:=.agg #[.bool np,.slice P k q]) (by simp[results,Tryz.results149,go_sem,r0,r1]) rfl ?_;exact⟨V,_,_,_,_,rfl,kW _ _ _ _ _ hP.out⟩
theorem Zxg(na:Bool)(A B:Option Addr)(n c m d:Nat)(za zb:Int)(w:World)(ha:Wd w na A n c za)(hb:Wd w false B m d zb)(h0:0<zb) :
    Calls Tryz.prog 99 #[.agg #[.bool na,.slice A n c],.agg #[.bool false,.slice B m d]] w (Zev w (Qe za zb)):=by
 have a4:0<m:=by rw[<- hb.lim.len];exact length_digits_pos.2 Gk
 have a0:((m:Int) == 0)=false:=by simp;omega
 have hm:=hb.2.1;obtain⟨W0,U,o,⟨q0,q1,q2⟩,s0⟩:=Zb2 w 39 #[.bool na,.slice A n c] 39 #[.bool false,.slice B m d] 41 #[.bool false,.slice none 0 0,.bool false,.slice none 0 0];have HA:=Zd (ha.below o);have HB:=Zd (hb.below o);clear ha hb;obtain⟨O,T,-⟩:=q0.two;have hq:=Zd (Qa q0 (Qa q1 q2));clear q0 q1 q2;go_in;go_wp2_with fail;refine(Zbs HA.out.lim HA.out.ok).mono ?_;rintro e w1 ⟨rfl,h⟩;have y:Below w.heap.size w w1:=Gs o h;have s1:W0.heap.size<=w1.heap.size:=h.size;replace HA:=Zd (HA.out.below h);replace HB:=Zd (HB.out.below h);obtain⟨q0,q1,q2⟩:=hq.out;replace q0:=Ze h q0;replace q1:=Ze h q1;replace q2:=Ze h q2;clear O T hq h o U;obtain⟨J,C,-⟩:=q1.two;have hq:=Zd (Qa q0 (Qa q1 q2));clear q0 q1 q2;go_wp2_with fail;refine(Zbs HB.out.lim HB.out.ok).mono ?_;rintro e w2 ⟨rfl,f⟩;have I:Below w.heap.size w w2:=Gs y f;have s2:w1.heap.size<=w2.heap.size:=f.size;replace HA:=Zd (HA.out.below f);replace HB:=Zd (HB.out.below f);obtain⟨q0,q1,q2⟩:=hq.out;replace q0:=Ze f q0;replace q1:=Ze f q1;replace q2:=Ze f q2;clear J C hq f y;obtain⟨O,T,-⟩:=q0.two;obtain⟨J,C,-⟩:=q1.two;have hq:=Zd q2;clear q0 q1 q2;go_wp2_with fail;refine(Zdl na A B n c m d za zb w2 HA.out HB.out h0).mono ?_;rintro e w3 ⟨u,nx,Ax,kx,cx,ny,Ay,ky,cy,rfl,hF⟩;have Y:Below w.heap.size w w3:=Gs I u
 have s3:w2.heap.size<=w3.heap.size:=u.size;replace hq:=Gm u hq;replace hF:=Zd hF;clear O T J C u I HA HB;obtain⟨a9,a7,a8,a6,a5,a1,a3,a2⟩:=hq.out.four;go_wp2_with fail;obtain⟨W5,V,aJ,q2,kW,-,s5⟩:=Z5 nx Ax kx cx ny Ay ky cy Y Gk hq.out;rw[V];obtain⟨r0,r1,r2,r3,-⟩:=q2.four;refine bodyPost_ret (v:=.tuple #[.agg #[.bool nx,.slice Ax kx cx,.bool ny,.slice Ay ky cy],.int .i64 0]) (by simp[results,Tryz.results99,go_sem,r0,r1,r2,r3]) rfl ?_;exact Ix
theorem rOf_pos(x y:Int)(w:World)(hx1:-9223372036854775808<=x)(hx2:x<=9223372036854775807)(h0:0<y)(hy:y<=9223372036854775807) :
    Calls Tryz.prog 60 #[.int .i64 x,.int .i64 y] w (Zev w (Qe x y)):=by
 obtain⟨W0,h,J,hq,s0⟩:=Zao w 41 #[.bool false,.slice none 0 0,.bool false,.slice none 0 0];replace h:=Zd h;replace hq:=Zd hq;go_in;go_wp2_with fail;rw[h.out];clear h;refine(Zc6 x W0 hx1 hx2).mono ?_;rintro e w1 ⟨o,na,A,n,c,rfl,hA⟩;have C:Below w.heap.size w w1:=J.trans (o.mono Gk);have s1:W0.heap.size<=w1.heap.size:=o.size;replace hq:=Gm o hq;replace hA:=Zd hA;clear o J;go_wp2_with fail;refine(Zc6 y w1 Gk hy).mono ?_;rintro e w2 ⟨f,nb,B,m,d,rfl,hB⟩;have I:Below w.heap.size w w2:=C.trans (f.mono Gk);have s2:w1.heap.size<=w2.heap.size:=f.size;replace hq:=Gm f hq;replace hA:=Zd (hA.out.below f);have hn:nb=false:=by rw[hB.1];simp;omega
 subst hn;replace hB:=Zd hB;clear f C;go_wp2_with fail;refine(Zxg na A B n c m d x y w2 hA.out hB.out h0).mono ?_;rintro e w3 ⟨u,nx,Ax,kx,cx,ny,Ay,ky,cy,rfl,hF⟩;have T:Below w.heap.size w w3:=I.trans (u.mono Gk);have s3:w2.heap.size<=w3.heap.size:=u.size;replace hq:=Gm u hq;obtain⟨a4,a2,a3,a1,a0,U,Y,V⟩:=hq.out.four;clear u I;replace hF:=Zd hF;go_wp2_with fail;obtain⟨W5,O,aJ,q2,kW,-,s5⟩:=Z5 nx Ax kx cx ny Ay ky cy T Gk hq.out;rw[O];obtain⟨r0,r1,r2,r3,-⟩:=q2.four;refine bodyPost_ret (v:=.tuple #[.agg #[.bool nx,.slice Ax kx cx,.bool ny,.slice Ay ky cy],.int .i64 0]) (by simp[results,Tryz.results60,go_sem,r0,r1,r2,r3]) rfl ?_;exact Ix
theorem Zxo(x:Int)(w:World)(hx1:-9223372036854775808<=x)(hx2:x<=9223372036854775807) :
    Calls Tryz.prog 50 #[.int .i64 x] w (Zdp w (x:Rat)):=by
 obtain⟨W0,y,u,hq,s0⟩:=Zao w 41 #[.bool false,.slice none 0 0,.bool false,.slice none 0 0];replace hq:=Zd hq;go_in;go_wp2_with fail;refine(Zc6 x W0 hx1 hx2).mono ?_;rintro e w1 ⟨h,na,A,n,c,rfl,hA⟩;have o:Below w.heap.size w w1:=u.trans (h.mono Gk);have s1:W0.heap.size<=w1.heap.size:=h.size;replace hq:=Gm h hq;replace hA:=Zd hA;clear h u y;go_wp2_with fail;refine(Zc6 1 w1 Gk Gk).mono ?_;rintro e w2 ⟨f,nb,B,m,d,rfl,hB⟩;have J:Below w.heap.size w w2:=o.trans (f.mono Gk);have s2:w1.heap.size<=w2.heap.size:=f.size;replace hq:=Gm f hq;replace hA:=Zd (hA.out.below f);replace hB:=Zd hB;clear f o;obtain⟨a2,a0,a1,Y,V,O,U,T⟩:=hq.out.four;go_wp2_with fail;obtain⟨W5,C,I,q2,kW,-,s5⟩:=Z5 na A n c nb B m d J Gk hq.out;rw[C];obtain⟨r0,r1,r2,r3,-⟩:=q2.four;refine bodyPost_ret (v:=.agg #[.bool na,.slice A n c,.bool nb,.slice B m d]) (by simp[results,Tryz.results50,go_sem,r0,r1,r2,r3]) rfl ?_;exact⟨I,_,_,_,_,_,_,_,_,rfl,kW _ _ _ _ _ hA.out,kW _ _ _ _ _ hB.out⟩
theorem OnlyNormal.imp{Q:Exit->Act->World->Prop}(e:Exit)(a:Act)(w:World)(h:OnlyNormal Q e a w):Q e a w:=by
 cases e <;> first|exact h|exact(h:False).elim
theorem Zz{P:Program}{id:Nat}{ops:Array Oper}{Q:Exit->Act->World->Prop}{a:Act}{w:World}(L:List Nat)(S:World->Prop)(hm:P.follows .mixedOrders=true)
    (hS:S w.drew) (h:S w.drew->Zab P .any ops (OnlyNormal Q) L S ops.size (Qf ops.size false) a w.drew):(Code.region id ops true).wp P Q a w:=
 Code.wp_mono OnlyNormal.imp (wp_region_any hm (Zi6 _ _ _ _ (h hS)))
theorem wp_heldS{P:Program}{id:Nat}{ops:Array Oper}{Q:Exit->Act->World->Prop}{a:Act}{w w0:World}{B:Nat}{S:World->Prop}(L:List Nat)(hm:P.follows .mixedOrders=true)
    (hv:Hid (∀ wx,Below B w0 wx->S wx)) (hb:Below B w0 w.drew) (h:S w.drew->Zab P .any ops (OnlyNormal Q) L S ops.size (Qf ops.size false) a w.drew):(Code.region id ops true).wp P Q a w:=Zz L S hm (hv.out _ hb) h
theorem Zxt{l n:Nat}{P:Program}{id:Nat}{ops:Array Oper}{Q:Exit->Act->World->Prop}{a:Act}{w w0:World}{B:Nat}{S:World->Prop}(L:List Nat)(hm:P.follows .mixedOrders=true)(hnd:Zkl ops=true)
    (hv:Hid (∀ wx,Below B w0 wx->S wx)) (hb:Below B w0 w.drew) (h:S w.drew->Zab P .any ops (OnlyNormal Q) L S ops.size (Qf ops.size false) a w.drew):(Code.region id ops true).wpIn (Fence.wide.inRound l) n P Q a w:=Zbh L S hm hnd (hv.out _ hb) h
theorem EM{G:Prop}(h:G:=by
 rw[iD];rintro e w6 ⟨rfl,eV⟩;have aM:Below w.heap.size w w6:=Gs aJ eV;replace q4:=Gm eV q4;clear g0 g1;obtain⟨g0,g1,-⟩:=q4.out.two;refine hK.out _ _ (λ_=>⟨g0,g1⟩) ?_;clear hK K
 try simp only[Act.put,Zg9,Zgn,Zg3]
 refine Zkb 1 [3] rfl Gi ⟨g0,g1⟩ ?_
 (refine tkA ?_;try simp only[Act.put,Zg9,Zgn,Zg3,Gr,Gq,Gp])
 refine tk0 ?_;refine wpAnyL_fin ?_;go_wp2_with fail;go_ret;exact⟨rfl,aM⟩):G:=h
theorem Zjw(na nb:Bool)(A B:Option Addr)(n c m d:Nat)(r:Rat)(w:World)(h:Fr w na A n c nb B m d r) :
    Calls Tryz.prog 17 #[.agg #[.bool na,.slice A n c,.bool nb,.slice B m d]] w λe w'=>e=.returned (.int .i64 0)/\Below w.heap.size w w':=by
 have hn:=h.neg;subst hn;have hmx:=Gt;have hl:=Zwj r;have Y:0<m:=by rw[<- h.2.lim.len];exact length_digits_pos.2 (by have:=hl.1;omega)
 have V:((m:Int) == 0)=false:=by simp;omega
 have hm:=h.2.2.1;obtain⟨W0,T,o,q0,s0⟩:=Zao w 41 #[.bool na,.slice A n c,.bool false,.slice B m d];have hA:=Zd (h.below o);clear h;obtain⟨a0,a1,a2,a3,-⟩:=q0.four;replace q0:=Zd q0;go_in;go_wp2_with fail;refine(Zbs hA.out.1.lim hA.out.1.ok).mono ?_;rintro e w1 ⟨rfl,y⟩;have C:Below w.heap.size w w1:=Gs o y;replace hA:=Zd (hA.out.below y);replace q0:=Gm y q0;clear a0 a1 a2 a3 y o T;obtain⟨a0,a1,a2,a3,-⟩:=q0.out.four;go_wp2_with fail;refine(Zbs hA.out.2.lim hA.out.2.ok).mono ?_;rintro e w2 ⟨rfl,u⟩;have I:Below w.heap.size w w2:=Gs C u;replace hA:=Zd (hA.out.below u);replace q0:=Gm u q0;clear a0 a1 a2 a3 u C;obtain⟨a0,a1,a2,a3,-⟩:=q0.out.four;go_wp2_with fail;refine(Zmc na false A B n c m d r.num r.den w2 hA.out.1 hA.out.2).mono ?_;rw[hl.2];rintro e w3 ⟨O,ng,Ag,kg,cg,code,rfl,hR⟩;have hG:=Zd (hR.small (Zby 4096 |> λh=>by have:pw 0<pw 4096:=Zdm Gj;rw[Zds]at this;exact this));have J:Below w.heap.size w w3:=Gs I O;clear a0 a1 a2 a3 O I q0 hA hR;obtain⟨W4,a4,U,q4,kW,kB,s4⟩:=Zq 39 #[.bool ng,.slice Ag kg cg] J J.size;replace hG:=Zd (kW _ _ _ _ _ hG.out);clear kW kB;obtain⟨g0,g1,-⟩:=q4.two;replace q4:=Zd q4;go_wp2_with fail;refine Zz [] (λW'=>W'.cell? ⟨w3.heap.size,0,none⟩=some (.bool ng)/\W'.cell? ⟨w3.heap.size,1,none⟩=some (.slice Ag kg cg)) hmx ⟨g0,g1⟩ (λ_=>?_);refine Zkb 1 [0] rfl Gi ⟨g0,g1⟩ ?_
 (refine tkA ?_;try simp only[Act.put,Zg9,Zgn,Zg3,Gr,Gq,Gp])
 refine tk0 ?_;refine wpAnyL_o 1 λK hK=>?_;go_simp;refine(Zc6 1 W4.drew Gk Gk).mono ?_;rintro e w5 ⟨f,n1,A1,k1,c1,rfl,hO⟩;replace f:=Zv f;have aJ:Below w.heap.size w w5:=U.trans (f.mono (by show w.heap.size<=W4.heap.size;have:=J.size;omega));replace hG:=Zd (hG.out.below f);replace q4:=Gm f q4;clear g0 g1;obtain⟨g0,g1,-⟩:=q4.out.two;refine hK.out _ _ (λ_=>⟨g0,g1⟩) ?_;clear hK K
 try simp only[Act.put,Zg9,Zgn,Zg3]
 refine wpAnyL_o 2 λK hK=>?_;go_simp;refine(Zc8 ng n1 Ag A1 kg cg k1 c1 _ _ w5 hG.out.lim hO.lim).mono ?_;have iD:Zgf ng n1 (digits (Int.natAbs ((1:Nat):Int))) (digits (Int.natAbs 1))=true:=by have h1:=hG.out.1;have h2:=hO.1;rw[h1,h2];unfold Zgf;simp[Zdh,Zco]
 exact EM
