/- Corr of package covar. The reference of covar: Corr. The -/
import Derived.Deep.LoopGhost
import Derived.Test.YthappeninglakaaGreatZe18
set_option maxRecDepth 100000
set_option maxHeartbeats 8000000
set_option linter.unusedSimpArgs false
set_option linter.unusedVariables false
namespace Go.Proofs.YthappeninglakaaGreat
open Go.RowKit
open Below renaming refl→Qa
open Nat renaming le_refl→Qb,le_trans→Qg,lt_of_le_of_lt→Qm,zero_le→QA,lt_irrefl→QB,lt_or_ge→QF,lt_of_lt_of_le→QQ,add_zero→QR,min_eq_left→QY
open Act renaming put→Qc
open List renaming replicate→Qd,getElem?_map→Qe,getElem?_eq_getElem→Qf,mem_of_getElem?→Qh,map_cons→Qi,map_nil→Qj,getElem?_replicate→Qk,getElem?_range→Ql,not_mem_nil→Qo,getElem?_append_left→Qp,range→Qq,mem_cons→Qs,getElem?_eq_none→Qu,length_map→Qv,eq_nil_of_length_eq_zero→Qy,map_congr_left→Qz,getElem?_append_right→QC,any_eq_true→QG,length_take→QH,take_of_length_le→QK,getElem_of_mem→QP,mem_singleton→QS,ext_getElem?→QT,take_add_one→QU,getElem_mem→QW,length_set→QX,take_zero→QZ
open Int renaming mul_le_mul→Qn,toNat_natCast→QD
open Rat renaming intCast_le_intCast→Qr,intCast_mul→QI,mul_pos→QJ,mul_nonneg→QM
open Bool renaming true_and→Qt,not_false→QO,and_eq_true→QV
open Option renaming map_some→Qw,getD_some→QE,map_eq_some_iff→QL
open World renaming cell?_of_block→Qx
open Blk renaming new→QN
attribute [local go_sem] Zg
def FracPost(E:Int)(V:Rat)(w:World)(e:Ending)(w':World):Prop:=
 Below w.heap.size w w'/\((E=0/\∃ na A n c nb B m d,e=.returned (.tuple #[.agg #[.bool na,.slice A n c,.bool nb,.slice B m d],.int .i64 0])/\Fr w' na A n c nb B m d V) \/
  (E≠0/\e=.returned (.tuple #[.agg #[.bool false,.slice none 0 0,.bool false,.slice none 0 0],.int .i64 E])))
theorem FracPost.fall{E0 E:Int}{V:Rat}{w w':World}(hb:Below w.heap.size w w')(h:E0=E)(h0:E≠0):FracPost E0 V w (.returned (.tuple #[.agg #[.bool false,.slice none 0 0,.bool false,.slice none 0 0],.int .i64 E])) w':=by
 subst h;exact⟨hb,.inr ⟨h0,rfl⟩⟩
def corE(rs:List RX)(i k:Int):Int:=if Za2 rs≠0 then Za2 rs else if 0<=i/\i<(rs.length:Int)/\0<=k/\k<(rs.length:Int)then 0 else 8
def Zsf(rs:List RX)(i k:Int):Rat:=Zh (qM rs) i.toNat k.toNat*Zh (qM rs) i.toNat k.toNat/(Zh (qM rs) i.toNat i.toNat*Zh (qM rs) k.toNat k.toNat)
section
variable{rs:List RX}{i k E:Int}
theorem Z09(h:Za2 rs=E)(h0:E≠0):corE rs i k=E:=by subst h;exact Gx h0
theorem Znn(h:Za2 rs=0)(hb:¬ (0<=i/\i<(rs.length:Int)/\0<=k/\k<(rs.length:Int))):corE rs i k=8:=by
 unfold corE;rw[Gw (by simp[h])];exact Gw hb
theorem Zv5(h:Za2 rs=0)(hb:0<=i/\i<(rs.length:Int)/\0<=k/\k<(rs.length:Int)):corE rs i k=0:=by
 unfold corE;rw[Gw (by simp[h])];exact Gx hb
end
theorem MFL.ents{w:World}{g o n c:Nat}{Q:List (List Rat)}(h:MFL w (some ⟨g,o,none⟩) n c Q)(hr:∀ i,i<n->(Q[i]?.getD []).length=n){I:Nat}(hI:I<n):∃ gi oi ci,w.cell? ⟨g,o+I,none⟩=some (.slice (some ⟨gi,oi,none⟩) n ci)/\n<=ci/\ci<=maxLen/\∀ K,K<n->∃ na A1 n1 c1 nb B m d,At4 w gi (oi+K*4) na A1 n1 c1 nb B m d/\Fr w na A1 n1 c1 nb B m d (Zh Q I K):=by
 obtain⟨A',n',c',h1,h2⟩:=h.atS hI;have hl:=h2.len;rw[hr I hI]at hl;subst hl;obtain⟨gi,oi,-,-,-,-,-,-,-,-,rfl,-,-⟩:=h2.at_ (k:=0) Gk;refine⟨gi,oi,c',h1,h2.cap.1,h2.cap.2,λK hK=>?_⟩;obtain⟨g9,o9,na,A1,n1,c1,nb,B,m,d,e,h3,h4⟩:=h2.at_ hK;cases e;exact⟨_,_,_,_,_,_,_,_,h3,h4⟩
theorem Zng(a:Rat):0<=a*a:=by
 rcases Rat.le_total (a:=0) (b:=a)with h|h;exact QM h h;have e:a*a=(-a)*(-a):=by grind
 have h2:0 <= -a:=Rat.neg_le_neg h |> λh3=>by rw[Rat.neg_zero]at h3;exact h3
 rw[e];exact QM h2 h2
theorem Zpy{A:Nat->Nat->Rat}{n:Nat}(hA:∀ i k,i<n->k<n->A i k=A k i)(hp:posP A n){k:Nat}(hk:k<n):∀ f t,t+f=k->0<Zn A t k k
 | 0,t,h=>by
  obtain rfl:t=k:=Gk;exact hp t hk
 | f+1,t,h=>by
  have h1:=Zpy hA hp hk f (t+1) Gk;have hd:=hp t Gk;have h2:=Zmq hA (t:=t) (i:=k) (k:=k) Gk (Qb _) hk (hp.ne Gk);have h3:=QM (Zng (lQ A k t)) (Rat.le_of_lt hd);have e:Zn A t k k=Zn A (t+1) k k+lQ A k t*lQ A k t*dQ A t:=by rw[h2];grind
  rw[e];have h6:Zn A (t+1) k k<=Zn A (t+1) k k+lQ A k t*lQ A k t*dQ A t:=by grind
  exact Rat.not_le.1 λh5=>Rat.not_le.2 h1 (Rat.le_trans h6 h5)
theorem Zer{rs:List RX}(h0:Za2 rs=0){k:Nat}(hk:k<rs.length):0<Zh (qM rs) k k:=by
 obtain⟨h,f,e⟩:=Zev h0;exact Zpy (A:=Zh (qM rs)) (n:=rs.length) (λi k hi hk=>symB_iff.1 f i k (by unfold qM;rw[Qv];exact hi) (by unfold qM;rw[Qv];exact hk)) e (k:=k) Gk k 0 Gk
theorem Zuu(na:Bool)(A:Option Addr)(n c:Nat)(nb:Bool)(B:Option Addr)(m d:Nat)(w:World):(Instr.field 73 (.agg #[.bool na,.slice A n c,.bool nb,.slice B m d]) 0).run Tryz.prog w=.ok (.agg #[.bool na,.slice A n c,.bool nb,.slice B m d]) w:=by kernel_rfl
theorem Ei{G:Prop}(h:G:=by
 go_wp2_with fail;refine(Za5 8 w1).mono ?_;rintro e w6 ⟨rfl,rfl⟩;go_wp2_with fail;refine leaves_cons (f:=39) (args:=#[.pointer (some ⟨w.heap.size+1,0,none⟩)]) Gh Gd ?_;have e0:=(q1.out).cell 0;simp at e0;refine(Zbg ⟨w.heap.size+1,0,none⟩ 8 0 _ e0 ((q1.out).frozen 0)).mono ?_;rintro e u' w'' ⟨rfl,rfl,hw⟩;obtain⟨V,hV,dF,-,-,hk,sV⟩:=Zs 117 #[.int .i64 8] (ae.out) ((ae.out).size);obtain⟨U,hU,cu,q3,-,kq,-⟩:=Zao 8 dF (Nat.le_succ _) (hk _ _ _ (q1.out));rw[hV,hU]at hw;subst hw;have r4:=q3.cell 0;simp at r4;obtain⟨d0,d1,d2,d3,-⟩:=(kq _ _ _ Gk (hk _ _ _ (q0.out))).four;exact⟨.tuple #[.agg #[.bool false,.slice none 0 0,.bool false,.slice none 0 0],.int .i64 8],by simp[results,Tryz.results26,go_sem,r4,d0,d1,d2,d3],FracPost.fall cu bH.out (by first|decide|assumption|exact eD.out)⟩):G:=h
theorem En{G:Prop}(h:G:=by
 exact hK.out _ _ ⟨_,rfl,(by simp only[Zaj];exact⟨_,_,_,_,_,_,_,_,rfl,av⟩),ao,trivial⟩):G:=h
theorem CL{G:Prop}(h:G:=by
 rintro e w5 ⟨ao,fn,fA,fk,fc,fm,fB,fj,fd,rfl,av⟩;exact En):G:=h
theorem Ce{G:Prop}(h:G:=by
 rintro e w5 ⟨ao,fn,fA,fk,fc,fm,fB,fj,fd,rfl,av⟩;rw[Zfx]at av;exact En):G:=h
theorem Zw0(A:Option Addr)(n c:Nat)(rs:List RX)(i k:Int)(w:World)(h:MXL w A n c rs)(hF:FacC rs)(hi1:-9223372036854775808<=i)(hi2:i<=9223372036854775807)(hk1:-9223372036854775808<=k)(hk2:k<=9223372036854775807)(hS:Za2 rs=0->∀ a b,SmN 5 5 (Zh (qM rs) a b)) :
    Calls Tryz.prog 26 #[.slice A n c,.int .i64 i,.int .i64 k] w (FracPost (corE rs i k) (Zsf rs i k) w):=by
 have hmx:=Gt;have d8:=Zb h.1;have p7:=h.2.1;have k8:=h.2.2.1;unfold maxLen at k8;obtain⟨W0,j1,a4,⟨q0,q1⟩,s0⟩:=Zdb w 41 #[.bool false,.slice none 0 0,.bool false,.slice none 0 0] 26 #[.int .i64 0];have hC:=Zb (Zik A n c rs W0 (h.below a4) hF);have hH:=Zb (h.below a4);replace hS:=Zb hS;replace q0:=Zb q0;replace q1:=Zb q1;replace a4:=Zb a4;clear h hF;replace s0:=Zb s0;obtain⟨mi,e9⟩:=Gz (min i k);obtain⟨ma,f8⟩:=Gz (max i k);have g5:=Zb e9;have g6:=Zb f8;clear e9 f8
 go_enter_defers Tryz.func26,Tryz.ntmps26
 go_wp2_with fail;(try rw[j1]);clear j1;refine hC.out.mono ?_;rintro e w1 ⟨a8,⟨h0,v1,v2,L0,rfl,m1⟩|⟨h0,rfl⟩⟩
 case inr =>
  have ae:=Gs a4.out a8;have k0:=Zc a8 q0.out;have k1:=Zc a8 q1.out;obtain⟨E,hE⟩:=Gz (Za2 rs);rw[hE]at h0 ⊢;have eD:=Zb h0;have bH:=Zb (Z09 (i:=i) (k:=k) hE h0);replace hE:=Zb hE;go_wp2_with fail;refine leaves_cons (f:=39) (args:=#[.pointer (some ⟨w.heap.size+1,0,none⟩)]) Gh Gd ?_;have e0:=(k1).cell 0;simp at e0;refine(Zbg ⟨w.heap.size+1,0,none⟩ E 0 _ e0 ((k1).frozen 0)).mono ?_;rintro e u' w'' ⟨rfl,rfl,hw⟩;obtain⟨V,hV,dF,-,-,hk,sV⟩:=Zs 117 #[.int .i64 E] (ae) ((ae).size);obtain⟨U,hU,cu,q3,-,kq,-⟩:=Zao E dF (Nat.le_succ _) (hk _ _ _ (k1));rw[hV,hU]at hw;subst hw;have r4:=q3.cell 0;simp at r4;obtain⟨d0,d1,d2,d3,-⟩:=(kq _ _ _ Gk (hk _ _ _ (k0))).four;exact⟨.tuple #[.agg #[.bool false,.slice none 0 0,.bool false,.slice none 0 0],.int .i64 E],by simp[results,Tryz.results26,go_sem,r4,d0,d1,d2,d3],FracPost.fall cu bH.out (by first|decide|assumption|exact eD.out)⟩
 have g0:=Zb (hS.out h0);obtain⟨e5,l7,k4⟩:=Zev h0;have p4:n<=6:=by rw[<- d8.out];exact e5.facts.2.1
 have a7:=e5.row hH.out;have hM:=Zb ((e5.good hH.out).below a8);have ae:=Gn a4 a8;replace q0:=Gm a8 q0;replace q1:=Gm a8 q1;replace h0:=Zb h0;replace a7:=Zb a7;clear m1 e5 l7 k4 hC hH a4 a8 L0 hS;have e9:=g5.out;have f8:=g6.out;by_cases T:0<=mi
 case neg =>
  have t1:decide (0<=mi)=false:=Gu T;have bH:=Zb (Znn (i:=i) (k:=k) h0.out (λhh=>T Gk));replace T:=Zb T;exact Ei
 by_cases b4:ma<(n:Int)
 case neg =>
  have t1:decide (0<=mi)=true:=Gv T;have t2:decide (ma<(n:Int))=false:=Gu b4;have bH:=Zb (Znn (i:=i) (k:=k) h0.out (λhh=>b4 (by rw[d8.out]at hh;omega)));replace T:=Zb T;replace b4:=Zb b4;exact Ei
 have bH:=Zb (Zv5 (i:=i) (k:=k) h0.out (by rw[d8.out];omega));obtain⟨I,rfl⟩:∃ I:Nat,i=I:=⟨i.toNat,by omega⟩;obtain⟨K,rfl⟩:∃ K:Nat,k=K:=⟨k.toNat,by omega⟩;have f4:I<n:=Gk;have g2:K<n:=Gk;have t1:decide (0<=mi)=true:=Gv T;have t2:decide (ma<(n:Int))=true:=Gv b4;replace T:=Zb T;replace b4:=Zb b4;have bI:(I:Int)<(n:Int):=Gk;have bK:(K:Int)<(n:Int):=Gk;obtain⟨g,o,-,-,-,rfl,-,-⟩:=hM.out.at_ f4;obtain⟨gi,oi,ci,rI,n6,i6,g8⟩:=hM.out.ents a7.out f4;obtain⟨gk,ok,ck,rK,n7,j3,i2⟩:=hM.out.ents a7.out g2;unfold maxLen at i6 j3;obtain⟨an,aA,ak,ac,am,aB,aj,ad,⟨a0,a1,a2,a3⟩,Y⟩:=g8 K g2;obtain⟨bn,bA,bk,bc,bm,bB,bj,bd,⟨b0,b1,b2,b3⟩,a6⟩:=g8 I f4;obtain⟨cn,cA,k6,cc,cm,cB,cj,cd,⟨c0,c1,c2,c3⟩,a5⟩:=i2 K g2;have h4:=Zer h0.out (k:=I) (by rw[d8.out];exact f4);have g9:=Zer h0.out (k:=K) (by rw[d8.out];exact g2);obtain⟨x,hx⟩:=Gz (Zh (qM rs) I K);obtain⟨y,hy⟩:=Gz (Zh (qM rs) I I);obtain⟨z,hz⟩:=Gz (Zh (qM rs) K K);have sx:=g0.out I K;have sy:=g0.out I I;have sz:=g0.out K K;rw[hx]at Y sx;rw[hy]at a6 sy h4;rw[hz]at a5 sz g9;have hV:Hid (Zsf rs (I:Int) (K:Int)=x*x/(y*z)):=Zb (by unfold Zsf;rw[QD,QD,hx,hy,hz]);have h6:y*z≠0:=λe=>absurd (QJ h4 g9) (by rw[e];decide)
 have s1:Sm x:=sx.sm Gj Gj;have s2:Sm y:=sy.sm Gj Gj;have s3:Sm z:=sz.sm Gj Gj;have s4:Sm (x*x):=(sx.mulN sx).sm Gj Gj;have s5:Sm (y*z):=(sy.mulN sz).sm Gj Gj;replace h6:=Zb h6;replace s1:=Zb s1;replace s2:=Zb s2;replace s3:=Zb s3;replace s4:=Zb s4;replace s5:=Zb s5;clear sx sy sz hx hy hz h4 g9 g8 i2 g0;replace Y:=Zb Y;replace a6:=Zb a6;replace a5:=Zb a5;go_wp2_with fail;refine(Zb9 8 w1).mono ?_;rintro e w6 ⟨rfl,rfl⟩;clear hM a7 h0 g5 g6 t1 t2 e9 f8;obtain⟨g1,f9⟩:=Gz w6.heap.size;obtain⟨V3,O,q5,a9⟩:=Zak (w:=w6) 73 #[.bool an,.slice aA ak ac,.bool am,.slice aB aj ad];rw[f9]at q5;replace q0:=Gm a9 q0;replace q1:=Gm a9 q1;replace Y:=Zb (Y.out.below a9);replace a6:=Zb (a6.out.below a9);replace a5:=Zb (a5.out.below a9);have h5:=Gn ae a9;clear ae a9;replace q5:=Zb q5;have f5:=Za (show Below w6.heap.size w6 V3 from by rw[<- O];exact(Qa _ _).alloc (Qb _) _) rI;have g4:=Za (show Below w6.heap.size w6 V3 from by rw[<- O];exact(Qa _ _).alloc (Qb _) _) rK;have f7:=Za (show Below w6.heap.size w6 V3 from by rw[<- O];exact(Qa _ _).alloc (Qb _) _) b0;have e8:=Za (show Below w6.heap.size w6 V3 from by rw[<- O];exact(Qa _ _).alloc (Qb _) _) b1
 have f6:=Za (show Below w6.heap.size w6 V3 from by rw[<- O];exact(Qa _ _).alloc (Qb _) _) b2;have e6:=Za (show Below w6.heap.size w6 V3 from by rw[<- O];exact(Qa _ _).alloc (Qb _) _) b3;have e2:=Za (show Below w6.heap.size w6 V3 from by rw[<- O];exact(Qa _ _).alloc (Qb _) _) c0;have e7:=Za (show Below w6.heap.size w6 V3 from by rw[<- O];exact(Qa _ _).alloc (Qb _) _) c1;have e1:=Za (show Below w6.heap.size w6 V3 from by rw[<- O];exact(Qa _ _).alloc (Qb _) _) c2;have e4:=Za (show Below w6.heap.size w6 V3 from by rw[<- O];exact(Qa _ _).alloc (Qb _) _) c3;go_wp2_with fail;(try rw[f9]);(try rw[O]);clear O;replace f9:=Zb f9;have e3:V3.cell? ⟨g1,0,none⟩=some (.bool an):=q5.out.cell 0;have d9:V3.cell? ⟨g1,1,none⟩=some (.slice aA ak ac):=q5.out.cell 1;have c8:V3.cell? ⟨g1,2,none⟩=some (.bool am):=q5.out.cell 2;have b7:V3.cell? ⟨g1,3,none⟩=some (.slice aB aj ad):=q5.out.cell 3;clear rI rK a0 a1 a2 a3 b0 b1 b2 b3 c0 c1 c2 c3
 have b9:Hid (∀ wx,Below V3.heap.size V3 wx->(wx.cell? ⟨g,o+I,none⟩=some (.slice (some ⟨gi,oi,none⟩) n ci))/\(wx.cell? ⟨g,o+K,none⟩=some (.slice (some ⟨gk,ok,none⟩) n ck))/\(wx.cell? ⟨gi,oi+I*4,none⟩=some (.bool bn))/\(wx.cell? ⟨gi,oi+I*4+1,none⟩=some (.slice bA bk bc))/\(wx.cell? ⟨gi,oi+I*4+2,none⟩=some (.bool bm))/\(wx.cell? ⟨gi,oi+I*4+3,none⟩=some (.slice bB bj bd))/\(wx.cell? ⟨gk,ok+K*4,none⟩=some (.bool cn))/\(wx.cell? ⟨gk,ok+K*4+1,none⟩=some (.slice cA k6 cc))/\(wx.cell? ⟨gk,ok+K*4+2,none⟩=some (.bool cm))/\(wx.cell? ⟨gk,ok+K*4+3,none⟩=some (.slice cB cj cd))/\(wx.cell? ⟨g1,0,none⟩=some (.bool an))/\(wx.cell? ⟨g1,1,none⟩=some (.slice aA ak ac))/\(wx.cell? ⟨g1,2,none⟩=some (.bool am))/\(wx.cell? ⟨g1,3,none⟩=some (.slice aB aj ad))):=Zb (λwx C=>⟨Za C f5,Za C g4,Za C f7,Za C e8,Za C f6,Za C e6,Za C e2,Za C e7,Za C e1,Za C e4,Za C e3,Za C d9,Za C c8,Za C b7⟩);have J:Below V3.heap.size V3 V3.drew:=Zf (Qa _ _) 1;refine wp_heldS [24,25] hmx b9 J (λhxs1=>?_);refine Zj9 18 [0,1,4,5,6,7,8,9,10,11,12,13,14,15,16,17,18,19] rfl Gi (b9.out _ J) ?_
 iterate 18 (refine tkA ?_;try simp only[Qc,Zhb,Zgo,Zg6,Gr,Gq,Gp])
 refine tk0 ?_;refine Za1 [(2,34),(3,35),(20,52),(21,53),(22,54),(23,55)] (λ_=>[]) [(2,34),(3,35),(20,52),(21,53),(22,54),(23,55)] (Zaj [(2,fl1V x),(3,frV (x*x)),(20,fl1V z),(21,frV (y*z)),(22,frV (x*x/(y*z))),(23,frV (x*x/(y*z)))]) 2 Gi (λp _=>Zef (Z0 Zea (Z0 Zby (Z0 Zea (Z0 Zby (Z0 Zby (Z0 Zby Ze4)))))) p.1) (λwx h=>b9.out _ (Gs J h)) ?hop1 ?hfin1
 case hop1 =>
  intro p hp;simp only[Qs,Qo,or_false]at hp;simp only[Qi,Qj,Zam,Qc,Zhb,Zgo,Zg6];rcases hp with rfl|rfl|rfl|rfl|rfl|rfl
  ·intro ν wx hb hP
   have C:=Gs J hb;refine Zm (i:=2) rfl (λK hK=>?_);go_simp;exact hK.out _ _ ⟨_,rfl,(by simp only[Zaj];exact⟨_,_,rfl,FL.sing1 (QN _ _ _) ((Y.out.below C).below ((Qa _ _).alloc (Qb _) _))⟩),(Qa _ _).alloc (Qb _) _,trivial⟩
  ·intro ν wx hb hP
   have C:=Gs J hb;have h2:=hP (2,34) Gh Gi;simp only[Zaj]at h2;obtain⟨k9,l4,hν2,l2⟩:=h2;rw[hν2];refine Zm (i:=3) rfl (λK hK=>?_);go_simp;refine(Zcf an aA ak ac am aB aj ad _ k9 1 l4 [x] wx (Y.out.below C) l2 Gj (Zdm s1.out) (Zem s1.out)).mono ?_;exact Ce
  ·intro ν wx hb hP
   have C:=Gs J hb;refine Zm (i:=20) rfl (λK hK=>?_);go_simp;exact hK.out _ _ ⟨_,rfl,(by simp only[Zaj];exact⟨_,_,rfl,FL.sing1 (QN _ _ _) ((a5.out.below C).below ((Qa _ _).alloc (Qb _) _))⟩),(Qa _ _).alloc (Qb _) _,trivial⟩
  ·intro ν wx hb hP
   have C:=Gs J hb;have d5:=hP (20,52) Gh Gi;simp only[Zaj]at d5;obtain⟨i1,j8,hν20,j0⟩:=d5;rw[hν20];refine Zm (i:=21) rfl (λK hK=>?_);go_simp;refine(Zcf bn bA bk bc bm bB bj bd _ i1 1 j8 [z] wx (a6.out.below C) j0 Gj (Zdm s2.out) (Zem s3.out)).mono ?_;exact Ce
  ·intro ν wx hb hP
   have C:=Gs J hb;have h3:=hP (3,35) Gh Gi;simp only[Zaj]at h3;obtain⟨k7,l0,k3,j9,k5,m0,k2,l3,hν3,l5⟩:=h3;rw[hν3];have d6:=hP (21,53) Gh Gi;simp only[Zaj]at d6;obtain⟨i5,h8,i9,i0,i7,j6,j7,i8,hν21,h9⟩:=d6;rw[hν21];refine Zm (i:=22) rfl (λK hK=>?_);go_simp;refine(Znm k7 k5 i5 i7 l0 m0 h8 j6 k3 j9 k2 l3 i9 i0 j7 i8 _ _ wx l5 h9 s4.out s5.out h6.out).mono ?_;exact CL
  intro ν wx hb hP;have C:=Gs J hb;have d7:=hP (22,54) Gh Gi;simp only[Zaj]at d7;obtain⟨m7,o2,m9,o3,o1,n4,o5,o9,hν22,i4⟩:=d7;rw[hν22];refine Zm (i:=23) rfl (λK hK=>?_);go_simp;exact hK.out _ _ ⟨_,rfl,(by simp only[Zaj];exact⟨_,_,_,_,_,_,_,_,rfl,i4⟩),Qa _ _,trivial⟩
 case hfin1 =>
  intro ν wx hb hP;have h2:=hP (2,34) Gh;simp only[Zaj]at h2;obtain⟨p6,p3,hν2,-⟩:=h2;have h3:=hP (3,35) Gh;simp only[Zaj]at h3;obtain⟨p0,p2,q2,p9,p8,p1,p5,q4,hν3,-⟩:=h3;have d5:=hP (20,52) Gh;simp only[Zaj]at d5;obtain⟨n1,n2,hν20,-⟩:=d5;have d6:=hP (21,53) Gh;simp only[Zaj]at d6;obtain⟨n5,n0,n3,n8,o6,o8,m2,m6,hν21,-⟩:=d6;have d7:=hP (22,54) Gh;simp only[Zaj]at d7;obtain⟨n9,o0,m5,o7,m8,o4,m4,m3,hν22,-⟩:=d7;have j5:=hP (23,55) Gh;simp only[Zaj]at j5;obtain⟨c9,c6,c4,b5,c5,b8,c7,b6,hν23,g7⟩:=j5;simp only[Qi,Qj,Zam,Qc,Zhb,Zgo,Zg6];rw[hν2,hν3,hν20,hν21,hν22,hν23];clear hν2 hν3 hν20 hν21 hν22 hν23 hP ν;have C:=Gs J hb;have u:=C;have d4:=g7;clear C hb b9 hxs1 J g7;replace q0:=Gm u q0;replace q1:=Gm u q1;replace Y:=Zb (Y.out.below u);replace a6:=Zb (a6.out.below u);replace a5:=Zb (a5.out.below u);replace q5:=Gm u q5;have j4:=Gn h5 u;clear h5;replace f5:=Za u f5;replace g4:=Za u g4;replace f7:=Za u f7;replace e8:=Za u e8;replace f6:=Za u f6;replace e6:=Za u e6;replace e2:=Za u e2;replace e7:=Za u e7;replace e1:=Za u e1;replace e4:=Za u e4;replace e3:=Za u e3;replace d9:=Za u d9;replace c8:=Za u c8
  replace b7:=Za u b7;clear u f5 g4 f7 e8 f6 e6 e2 e7 e1 e4 e3 d9 c8 b7;replace d4:=Zb d4;obtain⟨x0,x1,x2,x3,f0,f1,f2,f3⟩:=q0.out.four;obtain⟨W5,l1,l6,q5,kW,kB,l9⟩:=Zaa c9 c6 c4 b5 c5 b8 c7 b6 j4.out (Qb _) q0.out;have h1:=kB _ _ _ Gk q1.out;have i3:Fr W5 c9 c6 c4 b5 c5 b8 c7 b6 (x*x/(y*z)):=Fr.keep d4.out kW;have e0:=h1.cell 0;have z0:=h1.frozen 0;simp at e0;obtain⟨U,hU,cu,q3,j2,h7,-⟩:=Zao 0 l6 (Nat.le_succ _) h1;have r4:=q3.cell 0;simp at r4;obtain⟨y0,y1,y2,y3,-⟩:=(h7 _ _ _ Gk q5).four;have l8:Hid (Fr U c9 c6 c4 b5 c5 b8 c7 b6 (x*x/(y*z))):=Zb (Fr.keep i3 j2);clear kW kB l9 j2 h7 i3;refine Zv (i:=24) rfl Gi Gi (λK hK=>?_);go_simp;(try rw[l1]);refine hK.out _ _ ?_;clear hK K
  try simp only[Qc,Zhb,Zgo,Zg6,Gr,Gq,Gp]
  refine Zv (i:=25) rfl Gi Gi (λK hK=>?_);go_simp;(try rw[hU]);refine hK.out _ _ ?_;clear hK K
  try simp only[Qc,Zhb,Zgo,Zg6,Gr,Gq,Gp]
  refine wpAnyL_fin ?_;go_wp2_with fail;refine leaves_cons (f:=39) (args:=#[.pointer (some ⟨w.heap.size+1,0,none⟩)]) Gh Gd ?_;refine(Zet _ _).mono ?_;rintro e u' w'' ⟨rfl,rfl,rfl⟩;exact⟨.tuple #[.agg #[.bool c9,.slice c6 c4 b5,.bool c5,.slice b8 c7 b6],.int .i64 0],by simp[results,Tryz.results26,go_sem,r4,y0,y1,y2,y3],cu,.inl ⟨bH.out,_,_,_,_,_,_,_,_,rfl,by rw[hV.out];exact l8.out⟩⟩
def calmC(r:RX):Prop:=∀ e ∈ r.es,e.few<=4 \/ 64<e.few
def calmX(rs:List RX):Prop:=(rs.length<=4 \/ 6<rs.length)/\rs.length<=10/\Zjr 4 rs
theorem FS{G:Prop}(h:G:=by
 go_wp2_with fail;go_ret;exact⟨_,rfl,hB,λhf=>absurd hf Gj⟩):G:=h
theorem Cf{G:Prop}(h:G:=by
 have jV:decide ((70:Int)<(f:Int))=false:=Gu Gk
 have fV:Hid (∀ a e,a<j+1->es[a]?=some e->e.few<=4 \/ 64<e.few):=Zb (λa x ha hx=>by
  by_cases he:a=j
  ·subst he
   rw[fW.out]at hx;cases hx;rw[jI.out];omega
  exact iB.out a x Gk hx)
 go_wp2_with fail
 go_roundg (rn-(j+1))
 case measure=>omega
 case rel=>exact⟨j+1,by omega,by go_num,fV,aJ⟩):G:=h
theorem Ew{G:Prop}(h:G:=by
 have fI:decide ((10:Int)<(rn:Int))=false:=Gu Gk;go_wp2_with fail
 go_loopg [4] rn (λk iv wr=>∃ j:Nat,j+k=rn/\iv=.int .i64 j/\Hid (∀ a e,a<j->es[a]?=some e->e.few<=4 \/ 64<e.few)/\Below w0.heap.size w0 wr)
 case atStart=>exact⟨0,by omega,rfl,Zb (λa e ha=>by omega),Below.refl _ _⟩
 case round =>
  obtain⟨wx,rfl⟩:=Gy wr;obtain⟨j,fY,rfl,iB,ax⟩:=hrel;have k1:=Za ax k0;have fQ:=Zb (Gs hB ax);cases gk with
  | zero =>
   obtain rfl:rn=j:=Gk;have t3:decide ((rn:Int)<(rn:Int))=false:=Gh
   have jF:Hid (∀ a x,a<i+1->rs[a]?=some x->calmC x):=Zb (λa x ha hx=>by
    by_cases he:a=i
    ·subst he
     rw[hr.out]at hx;cases hx;intro e he;obtain⟨t,ht,jP⟩:=List.getElem_of_mem he;exact iB.out t e (by rw[jH.out]at ht;exact ht) (by rw[List.getElem?_eq_getElem ht,jP])
    exact hc.out a x Gk hx)
   go_wp2_with fail
   go_roundg (n-(i+1))
   case measure=>omega
   case rel=>exact⟨i+1,by omega,by omega,by go_num,jF,fQ.out⟩
  | succ fN =>
   obtain rfl:fN=rn-(j+1):=Gk;have fw:j<rn:=Gk;have t3:decide ((j:Int)<(rn:Int))=true:=Gv Gk;have bj:(j:Int)<(rn:Int):=Gk;obtain⟨g2,o2,e,fO,fW,⟨c0,c1,c2,c3⟩,aR,aG⟩:=(eR.out.below ax).at_ fw;rw[fO]at k1;replace fO:=Zb fO;have fZ:=Nat.le_trans aR.2.1 aR.2.2.1;have eN:=Nat.le_trans aG.2.1 aG.2.2.1;have iu:=Zb (λW1=>Zlz e.na e.nb e.A e.B e.n e.c e.m e.d W1 fZ eN);obtain⟨f,hf⟩:=Gz (max e.n e.m);have km:f<=9223372036854775807:=by unfold maxLen at fZ eN;omega
   rw[hf]at iu;have jI:Hid (e.few=f):=Zb hf;replace fW:=Zb fW;replace hf:=Zb hf;clear aR aG fZ eN;go_wp2_with fail;refine(iu.out _).mono ?_;rintro e2 w5 ⟨rfl,ao⟩;have aJ:=Gs ax ao;have aS:=Gn fQ ao;clear c0 c1 c2 c3 k1;by_cases f4:4<f
   ·have x4:decide ((4:Int)<(f:Int))=true:=Gv Gk
    by_cases f64:f<=64
    ·have jU:decide ((f:Int)<=64)=true:=Gv Gk
     go_wp2_with fail;go_ret;exact⟨_,rfl,aS.out,λhf=>absurd hf Gj⟩
    have jU:decide ((f:Int)<=64)=false:=Gu Gk;by_cases f70:70<f
    ·have jV:decide ((70:Int)<(f:Int))=true:=Gv Gk
     go_wp2_with fail;go_ret;exact⟨_,rfl,aS.out,λhf=>absurd hf Gj⟩
    exact Cf
   have x4:decide ((4:Int)<(f:Int))=false:=Gu Gk;exact Cf):G:=h
theorem Zjy(A:Option Addr)(n c:Nat)(rs:List RX)(w:World)(h:MXL w A n c rs) :
    Calls Tryz.prog 23 #[.slice A n c] w λe w'=>∃ b,e=.returned (.bool b)/\Below w.heap.size w w'/\(b=false->calmX rs):=by
 have hl:=h.1;have U:=h.2.1;have C:=h.2.2.1;unfold maxLen at C;replace h:=Zb h;replace hl:=Zb hl;go_in;go_wp2_with fail
 go_loopg [3] n (λk iv wr=>∃ i:Nat,i+k=n/\i<=10/\iv=.int .i64 i/\Hid (∀ a r,a<i->rs[a]?=some r->calmC r)/\Below w.heap.size w wr)
 case atStart=>exact⟨0,by omega,by omega,rfl,Zb (λa r ha=>by omega),Qa _ _⟩
 case round =>
  obtain⟨w0,rfl⟩:=Gy wr;obtain⟨i,T,O,rfl,hc,hB⟩:=hrel;by_cases hin:i<n
  case neg =>
   have t1:decide ((i:Int)<(n:Int))=false:=Gu Gk;have u:n<=10:=Gk
   have y:Hid (Zjr 4 rs):=Zb (λr hr=>by
    obtain⟨a,ha,e⟩:=QP hr;exact hc.out a r (by rw[hl.out]at ha;omega) (by rw[Qf ha,e]))
   by_cases h4:4<n
   ·have υ4:decide ((4:Int)<(n:Int))=true:=Gv Gk
    by_cases h6:n<=6
    ·have υ6:decide ((n:Int)<=6)=true:=Gv Gk
     exact FS
    have υ6:decide ((n:Int)<=6)=false:=Gu Gk;have fI:decide ((10:Int)<(n:Int))=false:=Gu Gk;go_wp2_with fail;go_ret;exact⟨_,rfl,hB,λ_=>⟨.inr (by rw[hl.out];omega),by rw[hl.out];exact u,y.out⟩⟩
   have υ4:decide ((4:Int)<(n:Int))=false:=Gu Gk;have fI:decide ((10:Int)<(n:Int))=false:=Gu Gk;go_wp2_with fail;go_ret;exact⟨_,rfl,hB,λ_=>⟨.inl (by rw[hl.out];omega),by rw[hl.out];exact u,y.out⟩⟩
  have t1:decide ((i:Int)<(n:Int))=true:=Gv Gk;by_cases hi10':i<10
  case neg =>
   have t2:decide ((i:Int)<10)=false:=Gu Gk;have I:decide (i<10)=false:=Gu Gk;have υ4:decide ((4:Int)<(n:Int))=true:=Gv Gk;have υ6:decide ((n:Int)<=6)=false:=Gu Gk;have fI:decide ((10:Int)<(n:Int))=true:=Gv Gk;exact FS
  have t2:decide ((i:Int)<10)=true:=Gv Gk;have I:decide (i<10)=true:=Gv Gk;obtain⟨fN,rfl⟩:∃ j,gk=j+1:=⟨gk-1,by omega⟩;obtain rfl:fN=n-(i+1):=Gk;have bi:(i:Int)<(n:Int):=Gk;obtain⟨g,o,⟨rA,rn,rc,es⟩,rfl,hr,k0,hF⟩:=(h.out.below hB).at_ hin;simp only at k0 hF;have J:=Qg hF.2.1 hF.2.2.1;unfold maxLen at J;have jH:Hid (es.length=rn):=Zb hF.1;have eR:=Zb hF;replace hr:=Zb hr;clear hF;by_cases h4:4<rn
  ·have υ4:decide ((4:Int)<(rn:Int))=true:=Gv Gk
   by_cases h6:rn<=6
   ·have υ6:decide ((rn:Int)<=6)=true:=Gv Gk
    exact FS
   have υ6:decide ((rn:Int)<=6)=false:=Gu Gk;by_cases h10:10<rn
   ·have fI:decide ((10:Int)<(rn:Int))=true:=Gv Gk
    exact FS
   exact Ew
  have υ4:decide ((4:Int)<(rn:Int))=false:=Gu Gk;exact Ew
section
variable{Q:List (List Rat)}{xs:List Rat}{n:Nat}
theorem LeN.mono{i j:Nat}{q:Rat}(h:LeN i q)(hij:i<=j):LeN j q:=⟨Qg h.1 (Zb6 hij),Qg h.2 (Zb6 hij)⟩
end
theorem Ztq{A V:Option Addr}{n c nv cv:Nat}{rs:List RX}{es:List FX}{w:World}(h:MXL w A n c rs)(hv:FXL w V nv cv es)(hf:Zjr 4 rs)(hn4:n<=4)(hx:∀ e ∈ es,e.few<=4 \/ 64<e.few)(h0:Zh3 rs es=0):Znj (Zh (qM rs)) rs.length (Zeu es):=by
 have hE:Za2 rs=0:=by
  by_cases e:Za2 rs=0;exact e;rw[Zpn rfl e]at h0;exact absurd h0 e
 have hb:es.length=rs.length/\Zci es=true:=by
  by_cases e:es.length=rs.length/\Zci es=true;exact e;rw[Zku hE e]at h0;exact absurd h0 Gj
 obtain⟨y,O,I⟩:=Zev hE;have C:rs.length=n:=h.1;have T:0<n:=by rw[<- C];exact y.facts.1
 have J:=y.small h hf;have hF:=y.fac h O hf (k:=4) (by rcases(show n=1 \/ n=2 \/ n=3 \/ n=4 by omega)with rfl|rfl|rfl|rfl <;> decide);rw[C]at I ⊢;refine Znk Gk hF (λi j _ _=>LeN.mono (J i j) Gj) (λi _=>?_) I;unfold Zeu;rw[Qe];cases e:es[i]? with
 | none=>exact⟨QA _,Zb1 _⟩
 | some f =>
  have o:=Qh e;have u:f.fine64=true:=List.all_eq_true.1 hb.2 f o;unfold FX.fine64 at u;rw[QV,decide_eq_true_eq]at u
  have h4:f.few<=4:=by
   rcases hx f o with h|h;exact h;omega
  exact LeN.mono (Zj6 (hv.2.2.2.1 f o) u.2 h4) Gj
theorem Zvz{A:Option Addr}{n c:Nat}{rs:List RX}{w:World}(h:MXL w A n c rs)(hf:Zjr 4 rs)(h0:Za2 rs=0):∀ a b,SmN 5 5 (Zh (qM rs) a b):=λa b=>by
 have h4:=(Zev h0).1.small h hf a b;exact⟨Qm h4.1 (Zct Gj),Qm h4.2 (Zct Gj)⟩
structure RootZ (s r up:Int):Prop where
 r0:0<=r
 lo:r*r<=s
 hi:s<(r+1)*(r+1)
 up:up=if r*r<s then r+1 else r
theorem RootZ.le{s r up x:Int}(h:RootZ s r up):(x<=0 \/ x*x<=s) ↔ x<=r:=by
 obtain⟨h0,h1,h2,-⟩:=h;constructor
 ·rintro(h3|h3)
  omega;apply Classical.byContradiction;intro h4;have h5:(r+1)*(r+1)<=x*x:=Qn Gk Gk Gk Gk;omega
 intro h3;rcases Int.lt_or_le 0 x with h4|h4
 ·have h5:x*x<=r*r:=Qn h3 h3 Gk h0
  exact .inr Gk
 exact .inl h4
theorem RootZ.ge{s r up x:Int}(h:RootZ s r up):(x<=0/\s<=x*x) ↔ x <= -up:=by
 obtain⟨h0,h1,h2,h3⟩:=h;have hx:x*x=(-x)*(-x):=by rw[Int.neg_mul_neg]
 rw[hx];by_cases h4:r*r<s
 ·rw[Gx h4]at h3
  constructor
  ·rintro⟨h5,h6⟩
   apply Classical.byContradiction;intro h7;have h8:(-x)*(-x)<=r*r:=Qn Gk Gk Gk h0;omega
  intro h5;have h8:(r+1)*(r+1)<=(-x)*(-x):=Qn Gk Gk Gk Gk;exact⟨by omega,by omega⟩
 rw[Gw h4]at h3;constructor
 ·rintro⟨h5,h6⟩
  apply Classical.byContradiction;intro h7;have h8:(-x+1)*(-x+1)<=r*r:=Qn Gk Gk Gk h0;have h9:(-x+1)*(-x+1)=(-x)*(-x)+2*(-x)+1:=by grind
  omega
 intro h5;have h8:r*r<=(-x)*(-x):=Qn Gk Gk h0 Gk;exact⟨by omega,by omega⟩
theorem Zws{a d w:Int}(hd:0<d):w<=Int.fdiv a d ↔ w*d<=a:=by
 rw[Int.fdiv_eq_ediv_of_nonneg _ Gk];exact Int.le_ediv_iff_mul_le hd
theorem Zjj{a b c:Rat}(h:0<c):c*a<=c*b ↔ a<=b:=⟨λh1=>Rat.le_of_mul_le_mul_left h1 h,λh1=>Rat.mul_le_mul_of_nonneg_left h1 (Rat.le_of_lt h)⟩
section
variable{mean sq:Rat}{m n s r up w:Int}
theorem Zll(hm:0<m)(hn:(n:Rat)=2*mean*m)(hs:(s:Rat)=4*sq*m*m):((w:Rat)-mean<=0 ↔ 2*m*w-n<=0)/\(((w:Rat)-mean)*((w:Rat)-mean)<=sq ↔ (2*m*w-n)*(2*m*w-n)<=s)/\(sq<=((w:Rat)-mean)*((w:Rat)-mean) ↔ s<=(2*m*w-n)*(2*m*w-n)):=by
 have e:(0:Rat)<(m:Rat):=by exact_mod_cast hm
 have e1:((2*m*w-n:Int):Rat)=2*(m:Rat)*((w:Rat)-mean):=by
  rw[Rat.intCast_sub,QI,QI,hn];have:((2:Int):Rat)=2:=rfl;rw[this];grind
 have h:(0:Rat)<2*(m:Rat):=QJ Gj e;have f:(0:Rat)<4*(m:Rat)*(m:Rat):=QJ (QJ Gj e) e
 have e2:(((2*m*w-n)*(2*m*w-n):Int):Rat)=4*(m:Rat)*(m:Rat)*(((w:Rat)-mean)*((w:Rat)-mean)):=by
  rw[QI,e1];grind
 have e3:(s:Rat)=4*(m:Rat)*(m:Rat)*sq:=by rw[hs];grind
 refine⟨?_,?_,?_⟩
 ·have h1:((2*m*w-n:Int):Rat)<=((0:Int):Rat) ↔ 2*m*w-n<=0:=Qr
  rw[<- h1,e1];have:((0:Int):Rat)=2*(m:Rat)*0:=by show (0:Rat)=_;grind
  rw[this];exact(Zjj h).symm
 ·have h1:(((2*m*w-n)*(2*m*w-n):Int):Rat)<=(s:Rat) ↔ _:=Qr
  rw[<- h1,e2,e3];exact(Zjj f).symm
 have h1:(s:Rat)<=(((2*m*w-n)*(2*m*w-n):Int):Rat) ↔ _:=Qr;rw[<- h1,e2,e3];exact(Zjj f).symm
theorem Zxp(hm:0<m)(hn:(n:Rat)=2*mean*m)(hs:(s:Rat)=4*sq*m*m)(hr:RootZ s r up):((w:Rat)-mean<=0 \/ ((w:Rat)-mean)*((w:Rat)-mean)<=sq) ↔ w<=Int.fdiv (n+r) (m+m):=by
 obtain⟨h1,h2,-⟩:=Zll (w:=w) hm hn hs;rw[h1,h2,hr.le,Zws Gk];have:w*(m+m)=2*m*w:=by grind
 omega
theorem Zvf(hm:0<m)(hn:(n:Rat)=2*mean*m)(hs:(s:Rat)=4*sq*m*m)(hr:RootZ s r up):((w:Rat)-mean<=0/\sq<=((w:Rat)-mean)*((w:Rat)-mean)) ↔ w<=Int.fdiv (n-up) (m+m):=by
 obtain⟨h1,-,h3⟩:=Zll (w:=w) hm hn hs;rw[h1,h3,hr.ge,Zws Gk];have:w*(m+m)=2*m*w:=by grind
 omega
end
structure RI where
 A:Option Addr
 n:Nat
 c:Nat
 l:List Int
def MIL(w:World)(A:Option Addr)(n c:Nat)(rs:List RI):Prop:=
 rs.length=n/\n<=c/\c<=maxLen/\(∀ r ∈ rs,LimI w r.A r.n r.c r.l)/\(0<n->∃ g o,A=some ⟨g,o,none⟩/\∀ (k:Nat) (r:RI),rs[k]?=some r->w.cell? ⟨g,o+k,none⟩=some (.slice r.A r.n r.c))
section
variable{w w':World}{A:Option Addr}{n c:Nat}{rs:List RI}
theorem MIL.below(h:MIL w A n c rs)(hb:Below w.heap.size w w'):MIL w' A n c rs:=by
 obtain⟨h1,h2,h3,h4,h5⟩:=h;refine⟨h1,h2,h3,λr hr=>(h4 r hr).below hb,λhn=>?_⟩;obtain⟨g,o,e,hc⟩:=h5 hn;exact⟨g,o,e,λk r hr=>(hb.cell (Zo (hc k r hr))).trans (hc k r hr)⟩
theorem MIL.at_(h:MIL w A n c rs){i:Nat}(hi:i<n):∃ g o r,A=some ⟨g,o,none⟩/\rs[i]?=some r/\w.cell? ⟨g,o+i,none⟩=some (.slice r.A r.n r.c)/\LimI w r.A r.n r.c r.l:=by
 obtain⟨h1,h2,h3,h4,h5⟩:=h;obtain⟨g,o,e,hc⟩:=h5 Gk;obtain⟨r,hr⟩:∃ r,rs[i]?=some r:=⟨_,Qf Gk⟩;exact⟨g,o,r,e,hr,hc i r hr,h4 r (Qh hr)⟩
theorem LimI.nlen{l:List Int}(h:LimI w A n c l):n<=maxLen:=Qg h.2.1 h.2.2.1
end
def Zqd(least x:Int):Bool:=decide (x<least) || decide (1099511627776<x)
def Zis(least:Int)(l:List Int):Bool:=l.any (Zqd least)
theorem Ix{G:Prop}(h:G:=by
 go_in;go_wp2_with fail;go_ret;exact⟨by simp[Zqd,t1],by first|exact Below.refl _ _|exact Zf (Below.refl _ _) _⟩):G:=h
theorem Zxb(x least:Int)(g:Nat)(w:World)(hc:w.cell? ⟨g,0,none⟩=some (.int .i64 least))(b:Bool)(hb:Zqd least x=b) :
    Calls Tryz.prog 138 #[.int .i64 x,.pointer (some ⟨g,0,none⟩)] w λe w'=>e=.returned (.bool b)/\Below w.heap.size w w':=by
 subst hb;by_cases h1:x<least
 ·have t1:decide (x<least)=true:=Gv h1
  exact Ix
 have t1:decide (x<least)=false:=Gu h1;exact Ix
theorem Zyj(A:Option Addr)(n c:Nat)(l:List Int)(least:Int)(p:Nat)(w:World)(h:LimI w A n c l)(hp:w.cell? ⟨p,0,none⟩=some (.int .i64 least))(b:Bool)(hb:Zis least l=b) :
    Calls Tryz.prog 125 #[.slice A n c,.func (.func 138) #[] #[.pointer (some ⟨p,0,none⟩)]] w (IdxB w b):=by
 have hl:=h.1;have O:=h.2.1;have y:=h.2.2.1;unfold maxLen at y;have hg:=Zb h.2.2.2.2;clear h;replace hl:=Zb hl;replace hb:=Zb hb;replace hp:=Zb hp;go_in;go_wp2_with fail
 go_loopw [8] (λiv wr=>∃ i:Nat,i<=n/\iv=.int .i64 i/\Hid (∀ j,j<i->Zqd least (l[j]?.getD 0)=false)/\Below w.heap.size w wr) (λiv _=>n-(intOf iv).toNat)
 case atStart=>exact⟨0,QA _,rfl,Zb (λj hj=>by omega),Qa _ _⟩
 case round =>
  obtain⟨i,J,rfl,f,aH⟩:=hrel;by_cases hin:i<n
  case neg =>
   obtain rfl:n=i:=Gk;have C:decide ((n:Int)<(n:Int))=false:=Gh
   obtain rfl:b=false:=by
    rw[<- hb.out];unfold Zis;rw[List.any_eq_false];intro e he;obtain⟨j,hj,I⟩:=QP he;have:=f.out j (by rw[hl.out]at hj;exact hj);rw[Qf hj,I]at this;simp only[QE]at this;rw[this];decide
   exact Fj
  have C:decide ((i:Int)<(n:Int))=true:=Gv Gk;obtain⟨g,o,rfl,u⟩:=hg.out Gk;have c0:=(aH.cell (Zo (u i hin))).trans (u i hin);have hC:=Zb (λW1 (h1:Below wr.heap.size wr W1)=>Zxb (l[i]?.getD 0) least p W1 ((h1.cell (QQ (Zo hp.out) aH.size)).trans ((aH.cell (Zo hp.out)).trans hp.out)));clear u;obtain⟨x,hx⟩:=Gz (Zqd least (l[i]?.getD 0));cases x
  ·have ay:Hid (∀ j,j<i+1->Zqd least (l[j]?.getD 0)=false):=Zb (λj hj=>by
     rcases QF j i with h'|h';exact f.out j h';obtain rfl:j=i:=Gk;exact hx)
   replace hx:=Zb hx;generalize l[i]?.getD 0=z at *;go_wp2_with fail;refine(hC.out _ (by first|exact Qa _ _|exact Zf (Qa _ _) _) _ hx.out).mono ?_;exact Ep
  obtain rfl:b=true:=by
    rw[<- hb.out];unfold Zis;rw[QG];refine⟨l[i]?.getD 0,?_,hx⟩;have:=hl.out;rw[Qf Gk];exact QW _
  replace hx:=Zb hx;generalize l[i]?.getD 0=z at *;go_wp2_with fail;refine(hC.out _ (by first|exact Qa _ _|exact Zf (Qa _ _) _) _ hx.out).mono ?_;exact Ek
theorem Zvv(A:Option Addr)(n c:Nat)(l:List Int)(least:Int)(p:Nat)(w:World)(h:LimI w A n c l)(hp:w.cell? ⟨p,0,none⟩=some (.int .i64 least))(b:Bool)(hb:Zis least l=b) :
    Calls Tryz.prog 77 #[.slice A n c,.func (.func 138) #[] #[.pointer (some ⟨p,0,none⟩)]] w λe w'=>e=.returned (.bool b)/\Below w.heap.size w w':=by
 go_in;go_wp2_with fail;refine(Zyj A n c l least p w h hp b hb).mono ?_;exact EX
theorem Zg9(A:Option Addr)(n c:Nat)(l:List Int)(least:Int)(w:World)(h:LimI w A n c l)(b:Bool)(hb:Zis least l=b) :
    Calls Tryz.prog 90 #[.slice A n c,.int .i64 least] w λe w'=>e=.returned (.bool b)/\Below w.heap.size w w':=by
 obtain⟨W0,u,f,q0,s0⟩:=Zan w 2 #[.int .i64 least];have q1:=(q0.cell 0:W0.cell? ⟨w.heap.size,0,none⟩=some (.int .i64 least));have hC:=Zb (λW1 (h1:Below W0.heap.size W0 W1)=>Zvv A n c l least w.heap.size W1 ((h.below f).below h1) ((h1.cell (Zo q1)).trans q1) b hb);clear h;go_in;go_wp2_with fail;refine(hC.out _ (by first|exact Qa _ _|exact Zf (Qa _ _) _)).mono ?_;rintro e w1 ⟨rfl,o⟩;go_wp2_with fail;go_ret;exact⟨rfl,Gs f o⟩
theorem Zw1(A:Option Addr)(n c:Nat)(w:World)(hn:n<=maxLen) :
    Calls Tryz.prog 89 #[.slice A n c] w λe w'=>e=.returned (.bool (decide (12<n)))/\Below w.heap.size w w':=by
 exact CB
def RI.long(r:RI):Bool:=decide (12<r.n)
theorem Zxv(A:Option Addr)(n c:Nat)(rs:List RI)(w:World)(h:MIL w A n c rs)(b:Bool)(hb:rs.any RI.long=b) :
    Calls Tryz.prog 79 #[.slice A n c,.func (.func 89) #[] #[]] w (IdxB w b):=by
 have hl:=h.1;have u:=h.2.1;have f:=h.2.2.1;unfold maxLen at f;replace hl:=Zb hl;replace hb:=Zb hb;replace h:=Zb h;go_in;go_wp2_with fail
 go_loopw [8] (λiv wr=>∃ i:Nat,i<=n/\iv=.int .i64 i/\Hid (∀ j e,j<i->rs[j]?=some e->e.long=false)/\Below w.heap.size w wr) (λiv _=>n-(intOf iv).toNat)
 case atStart=>exact⟨0,QA _,rfl,Zb (λj e hj=>by omega),Qa _ _⟩
 case round =>
  obtain⟨i,y,rfl,au,aH⟩:=hrel;by_cases hin:i<n
  case neg =>
   exact Em
  have fH:decide ((i:Int)<(n:Int))=true:=Gv Gk;obtain⟨g,o,r,rfl,he,c0,hL⟩:=(h.out.below aH).at_ hin;have hC:=Zb (λW1=>Zw1 r.A r.n r.c W1 hL.nlen);clear hL;by_cases hx:12<r.n
  ·obtain rfl:b=true:=by
     rw[<- hb.out,QG];exact⟨r,Qh he,by unfold RI.long;simpa using hx⟩
   exact Cb
  have ay:Hid (∀ j e,j<i+1->rs[j]?=some e->e.long=false):=Zb (λj e' hj he'=>by
    rcases QF j i with h'|h';exact au.out j e' h' he';obtain rfl:j=i:=Gk;rw[he]at he';cases he';unfold RI.long;simpa using hx)
  exact Cc
theorem Zvo(A:Option Addr)(n c:Nat)(rs:List RI)(w:World)(h:MIL w A n c rs)(b:Bool)(hb:rs.any RI.long=b) :
    Calls Tryz.prog 41 #[.slice A n c,.func (.func 89) #[] #[]] w λe w'=>e=.returned (.bool b)/\Below w.heap.size w w':=by
 go_in;go_wp2_with fail;refine(Zxv A n c rs w h b hb).mono ?_;exact EX
def n0I(rs:List RI):Nat:=(rs[0]?.map RI.n).getD 0
def Zq5(k:Nat)(r:RI):Bool:=decide (r.n=k) && !Zis (-1099511627776) r.l
def Zls(rs:List RI):Bool:=decide (200<rs.length) || rs.any RI.long
def sysB(rs:List RI)(right weights:List Int):Bool:=
 !decide (n0I rs=0) && (decide (weights.length=rs.length) && (decide (right.length=rs.length) && (!Zis 1 weights && (!Zis (-1099511627776) right && rs.all (Zq5 (n0I rs))))))
def Zd4(rs:List RI)(right weights:List Int):Int:=if Zls rs=true then 4 else if sysB rs right weights=true then 0 else 8
theorem Zpa{rs:List RI}{a b:List Int}(h:Zls rs=true):Zd4 rs a b=4:=by unfold Zd4;rw[Gx h]
theorem Zzk{rs:List RI}{a b:List Int}(h:Zls rs=false)(h0:sysB rs a b=false):Zd4 rs a b=8:=by unfold Zd4;rw[Gw (by simp[h]),Gw (by simp[h0])]
theorem sysE_ok{rs:List RI}{a b:List Int}(h:Zls rs=false)(h0:sysB rs a b=true):Zd4 rs a b=0:=by unfold Zd4;rw[Gw (by simp[h]),Gx h0]
theorem n0I_at{rs:List RI}{r:RI}(h:rs[0]?=some r):n0I rs=r.n:=by unfold n0I;rw[h];rfl
theorem EH{G:Prop}(h:G:=by
 go_in;go_wp2_with fail;refine(hC.out _ (by first|exact Below.refl _ _|exact Zf Below.refl _ _ _)).mono ?_;rintro e w1 ⟨rfl,ab⟩;have ae:Below w.heap.size w w1:=by first|exact ab|exact(Below.refl _ _).trans (ab.mono (Below.refl _ _).size)|exact(Zf (Below.refl _ _) _).trans (ab.mono (Below.refl _ _).size)
 clear ab;go_wp2_with fail;go_ret;exact⟨rfl,by first|exact ae|exact Zf ae _⟩):G:=h
theorem Ej{G:Prop}(h:G:=by
 go_in;go_wp2_with fail;refine(hC.out _ (by first|exact Below.refl _ _|exact Zf Below.refl _ _ _)).mono ?_;rintro e w1 ⟨rfl,ab⟩;have ae:Below w.heap.size w w1:=by first|exact ab|exact(Below.refl _ _).trans (ab.mono (Below.refl _ _).size)|exact(Zf (Below.refl _ _) _).trans (ab.mono (Below.refl _ _).size)
 clear ab;have k1:=Za ae c0;go_wp2_with fail;go_ret;exact⟨rfl,by first|exact ae|exact Zf ae _⟩):G:=h
theorem Zlq(A B C:Option Addr)(n c m d k e0:Nat)(rs:List RI)(rr ws:List Int)(w:World)(h:MIL w A n c rs)(hr:LimI w B m d rr)(hw:LimI w C k e0 ws)(E:Int)(hE:Zd4 rs rr ws=E) :
    Calls Tryz.prog 54 #[.slice A n c,.slice B m d,.slice C k e0] w λe w'=>e=.returned (.int .i64 E)/\Below w.heap.size w w':=by
 have hl:=h.1;have c6:=h.2.1;have b5:=h.2.2.1;have a7:=hr.1;have a2:=hw.1;have c2:=hr.nlen;have b8:=hw.nlen;unfold maxLen at b5 c2 b8;replace hE:=Zb hE;by_cases h12:200<n
 ·have t1:decide ((200:Int)<(n:Int))=true:=Gv Gk
  obtain rfl:E=4:=by rw[<- hE.out];exact Zpa (by unfold Zls;rw[hl,Gv h12];rfl)
  go_in;go_wp2_with fail;go_ret;exact⟨rfl,by first|exact Qa _ _|exact Zf Qa _ _ _⟩
 have t1:decide ((200:Int)<(n:Int))=false:=Gu Gk;obtain⟨x,hx⟩:=Gz (rs.any RI.long);have a0:Zls rs=x:=by unfold Zls;rw[hl,Gu h12,hx];rfl
 have hC:=Zb (λW1 (hb:Below w.heap.size w W1)=>Zvo A n c rs W1 (h.below hb) x hx);clear hx;replace a0:=Zb a0;cases x
 case true =>
  obtain rfl:E=4:=by rw[<- hE.out];exact Zpa a0.out
  clear h;exact EH
 have u:sysB rs rr ws=false->E=8:=λhf=>by rw[<- hE.out];exact Zzk a0.out hf
 have f:sysB rs rr ws=true->E=0:=λhf=>by rw[<- hE.out];exact sysE_ok a0.out hf
 unfold sysB at u f;rw[a7,a2,hl]at u f;replace u:=Zb u;replace f:=Zb f;clear hE;by_cases hn0:n=0
 ·subst hn0
  obtain rfl:E=8:=u.out (by
   have:rs=[]:=Qy hl;rw[this];rfl)
  clear h f u;exact EH
 have t2:((n:Int) == 0)=false:=by simp;omega
 have c3:decide (n=0)=false:=by simpa using hn0
 obtain⟨g,o,r0,rfl,b1,c0,b4⟩:=h.at_ (i:=0) Gk;have b3:=b4.nlen;unfold maxLen at b3;have T:=n0I_at b1;clear b1 b4;rw[QR]at c0;have c5:=Zo c0;rw[T]at u f;by_cases hz:r0.n=0
 ·obtain rfl:E=8:=u.out (by rw[Gv hz];rfl)
  have t3:((r0.n:Int) == 0)=true:=by simp[hz]
  have b2:decide (r0.n=0)=true:=by simpa using hz
  clear u f;replace h:=Zb h;replace T:=Zb T;replace hz:=Zb hz;exact Ej
 have t3:((r0.n:Int) == 0)=false:=by simpa using hz
 have b2:decide (r0.n=0)=false:=by simpa using hz
 rw[b2]at u f;replace h:=Zb h;replace hl:=Zb hl;replace a7:=Zb a7;replace a2:=Zb a2;replace T:=Zb T;replace hz:=Zb hz;by_cases V:k=n
 case neg =>
  have t4:((k:Int) == (n:Int))=false:=beq_eq_false_iff_ne.2 Gk;have b9:((k:Int) != (n:Int))=true:=by rw[bne,t4];rfl
  have a9:decide (k=n)=false:=by simpa using V
  obtain rfl:E=8:=u.out (by rw[a9];rfl);clear u f;replace V:=Zb V;exact Ej
 have t4:((k:Int) == (n:Int))=true:=beq_iff_eq.2 Gk;have b9:((k:Int) != (n:Int))=false:=by rw[bne,t4];rfl
 have a9:decide (k=n)=true:=by simpa using V
 rw[QO,Qt,a9,Qt]at u f;replace V:=Zb V;by_cases Y:m=n
 case neg =>
  have t5:((m:Int) == (n:Int))=false:=beq_eq_false_iff_ne.2 Gk;have b6:((m:Int) != (n:Int))=true:=by rw[bne,t5];rfl
  have a3:decide (m=n)=false:=by simpa using Y
  obtain rfl:E=8:=u.out (by rw[a3];rfl);clear u f;replace Y:=Zb Y;exact Ej
 have t5:((m:Int) == (n:Int))=true:=beq_iff_eq.2 Gk;have b6:((m:Int) != (n:Int))=false:=by rw[bne,t5];rfl
 have a3:decide (m=n)=true:=by simpa using Y
 rw[a3,Qt]at u f;replace Y:=Zb Y;obtain⟨xw,a5⟩:=Gz (Zis 1 ws);have hW:=Zb (λW1 (hb:Below w.heap.size w W1)=>Zg9 C k e0 ws 1 W1 (hw.below hb) xw a5);rw[a5]at u f;clear a5 hw;cases xw
 case true =>
  obtain rfl:E=8:=u.out rfl;clear u f;go_in;go_wp2_with fail;refine(hC.out _ (by first|exact Qa _ _|exact Zf Qa _ _ _)).mono ?_;rintro e w1 ⟨rfl,ab⟩;have ae:Below w.heap.size w w1:=by first|exact ab|exact(Qa _ _).trans (ab.mono (Qa _ _).size)|exact(Zf (Qa _ _) _).trans (ab.mono (Qa _ _).size)
  clear ab;have k1:=Za ae c0;go_wp2_with fail;refine(hW.out _ (by first|exact ae|exact Zf ae _)).mono ?_;rintro e w2 ⟨rfl,I⟩;have y:Below w.heap.size w w2:=by first|exact I|exact(ae).trans (I.mono (ae).size)|exact(Zf (ae) _).trans (I.mono (ae).size)
  clear I;have k2:=Za y c0;go_wp2_with fail;go_ret;exact⟨rfl,by first|exact y|exact Zf y _⟩
 rw[QO,Qt]at u f;obtain⟨xr,a4⟩:=Gz (Zis (-1099511627776) rr);have hR:=Zb (λW1 (hb:Below w.heap.size w W1)=>Zg9 B m d rr (-1099511627776) W1 (hr.below hb) xr a4);rw[a4]at u f;clear a4 hr;cases xr
 case true =>
  obtain rfl:E=8:=u.out rfl;clear u f;go_in;go_wp2_with fail;refine(hC.out _ (by first|exact Qa _ _|exact Zf Qa _ _ _)).mono ?_;rintro e w1 ⟨rfl,ab⟩;have ae:Below w.heap.size w w1:=by first|exact ab|exact(Qa _ _).trans (ab.mono (Qa _ _).size)|exact(Zf (Qa _ _) _).trans (ab.mono (Qa _ _).size)
  clear ab;have k1:=Za ae c0;go_wp2_with fail;refine(hW.out _ (by first|exact ae|exact Zf ae _)).mono ?_;rintro e w2 ⟨rfl,I⟩;have y:Below w.heap.size w w2:=by first|exact I|exact(ae).trans (I.mono (ae).size)|exact(Zf (ae) _).trans (I.mono (ae).size)
  clear I;have k2:=Za y c0;go_wp2_with fail;refine(hR.out _ (by first|exact y|exact Zf y _)).mono ?_;rintro e w3 ⟨rfl,O⟩;have U:Below w.heap.size w w3:=by first|exact O|exact(y).trans (O.mono (y).size)|exact(Zf (y) _).trans (O.mono (y).size)
  clear O;have k3:=Za U c0;go_wp2_with fail;go_ret;exact⟨rfl,by first|exact U|exact Zf U _⟩
 rw[QO,Qt]at u f;go_in;go_wp2_with fail;refine(hC.out _ (by first|exact Qa _ _|exact Zf Qa _ _ _)).mono ?_;rintro e w1 ⟨rfl,ab⟩;have ae:Below w.heap.size w w1:=by first|exact ab|exact(Qa _ _).trans (ab.mono (Qa _ _).size)|exact(Zf (Qa _ _) _).trans (ab.mono (Qa _ _).size)
 clear ab;have k1:=Za ae c0;go_wp2_with fail;refine(hW.out _ (by first|exact ae|exact Zf ae _)).mono ?_;rintro e w2 ⟨rfl,I⟩;have y:Below w.heap.size w w2:=by first|exact I|exact(ae).trans (I.mono (ae).size)|exact(Zf (ae) _).trans (I.mono (ae).size)
 clear I;have k2:=Za y c0;go_wp2_with fail;refine(hR.out _ (by first|exact y|exact Zf y _)).mono ?_;rintro e w3 ⟨rfl,O⟩;have U:Below w.heap.size w w3:=by first|exact O|exact(y).trans (O.mono (y).size)|exact(Zf (y) _).trans (O.mono (y).size)
 clear O;have k3:=Za U c0;go_wp2_with fail;clear hC hW hR ae y k1 k2
 go_loopw [50] (λiv wr=>∃ i:Nat,i<=n/\iv=.int .i64 i/\Hid (∀ j e,j<i->rs[j]?=some e->Zq5 r0.n e=true)/\Below w.heap.size w wr) (λiv _=>n-(intOf iv).toNat)
 case atStart=>exact⟨0,QA _,rfl,Zb (λj e hj=>by omega),(by first|exact U|exact Zf U _)⟩
 case round =>
  clear k3 U;obtain⟨i,c4,rfl,au,J⟩:=hrel;have k0:=Za J c0;clear c0;by_cases hin:i<n
  case neg =>
   obtain rfl:n=i:=Gk;have b7:decide ((n:Int)<(n:Int))=false:=Gh
   obtain rfl:E=0:=by
    refine f.out ?_;exact Eb
   clear u;go_wp2_with fail;go_ret;exact⟨rfl,J⟩
  have b7:decide ((i:Int)<(n:Int))=true:=Gv Gk;obtain⟨g',o',r,hA,he,c1,hL⟩:=(h.out.below J).at_ hin;cases hA;have b0:=hL.nlen;unfold maxLen at b0
  have bad:Zq5 r0.n r=false->E=8:=λhf=>u.out (by
   rw[List.all_eq_false];exact⟨r,Qh he,by rw[hf];decide⟩)
  have good:Zq5 r0.n r=true->Hid (∀ j e,j<i+1->rs[j]?=some e->Zq5 r0.n e=true):=λhf=>Zb (λj e' hj he'=>by
   rcases QF j i with h'|h';exact au.out j e' h' he';obtain rfl:j=i:=Gk;rw[he]at he';cases he';exact hf)
  replace bad:=Zb bad;replace good:=Zb good;replace he:=Zb he;clear u;by_cases hq:r.n=r0.n
  case neg =>
   have t6:((r.n:Int) == (r0.n:Int))=false:=beq_eq_false_iff_ne.2 Gk;have t7:((r.n:Int) != (r0.n:Int))=true:=by rw[bne,t6];rfl
   have a6:decide (r.n=r0.n)=false:=by simpa using hq
   obtain rfl:E=8:=bad.out (by unfold Zq5;rw[a6];rfl);clear hL f;go_wp2_with fail;go_ret;exact⟨rfl,by first|exact J|exact Zf J _⟩
  have t6:((r.n:Int) == (r0.n:Int))=true:=beq_iff_eq.2 Gk;have t7:((r.n:Int) != (r0.n:Int))=false:=by rw[bne,t6];rfl
  have a6:decide (r.n=r0.n)=true:=by simpa using hq
  obtain⟨x,hx⟩:=Gz (Zis (-1099511627776) r.l);have hC:=Zb (λW1 (hb:Below wr.heap.size wr W1)=>Zg9 r.A r.n r.c r.l (-1099511627776) W1 (hL.below hb) x hx);replace hx:=Zb hx;replace hq:=Zb hq;clear hL;cases x
  ·have a8:=good.out (by unfold Zq5;rw[a6,hx.out];rfl)
   go_wp2_with fail;refine(hC.out _ (by first|exact Qa _ _|exact Zf (Qa _ _) _)).mono ?_;rintro e' w4 ⟨rfl,a1⟩;go_wp2_with fail
   go_roundw
   case rel=>exact⟨i+1,by omega,by go_num,a8,(by first|exact Gs J a1|exact(Zf J _).trans (a1.mono J.size))⟩
   case measure=>simp[intOf];omega
  obtain rfl:E=8:=bad.out (by unfold Zq5;rw[hx.out];simp);clear f;go_wp2_with fail;refine(hC.out _ (by first|exact Qa _ _|exact Zf (Qa _ _) _)).mono ?_;rintro e' w4 ⟨rfl,a1⟩;go_wp2_with fail;go_ret;exact⟨rfl,(by first|exact Gs J a1|exact(Zf J _).trans (a1.mono J.size))⟩
attribute [local go_sem] Zg Oper.semAt_some
def Zc1(ws:List Int)(a b:Nat->Int):Nat->Int
 | 0=>0
 | i+1=>Zc1 ws a b i+(ws[i]?.getD 0)*(a i*b i)
def Ziq(v:Value)(z:Int)(w:World):Prop:=∃ na A n c,v=.agg #[.bool na,.slice A n c]/\Wd w na A n c z
def numT(v:Value)(z:Int)(w:World):Prop:=∃ na A n c,v=.tuple #[.agg #[.bool na,.slice A n c],.int .i64 0]/\Wd w na A n c z
theorem Zdp{v:Value}{z:Int}{w w':World}(hb:Below w.heap.size w w')(h:Ziq v z w):Ziq v z w':=by
 obtain⟨na,A,n,c,e,hf⟩:=h;exact⟨na,A,n,c,e,hf.below hb⟩
theorem Zu9{v:Value}{z:Int}{w w':World}(hb:Below w.heap.size w w')(h:numT v z w):numT v z w':=by
 obtain⟨na,A,n,c,e,hf⟩:=h;exact⟨na,A,n,c,e,hf.below hb⟩
def Ze5(x a b s:Int)(i:Nat)(v:Value)(w:World):Prop:=
 if i=2 then Ziq v x w else if i=5 then v=.int .i64 a else if i=6 then Ziq v a w else if i=9 then v=.int .i64 b else if i=10 then Ziq v b w
 else if i=11 then Ziq v (a*b) w else if i=12 then Ziq v (x*(a*b)) w else if i=13 \/ i=14 then numT v (s+x*(a*b)) w else if i=15 then Ziq v (s+x*(a*b)) w else if i=16 then v=.int .i64 0 else True
theorem Zt0{x a b s:Int}{i:Nat}{v:Value}{w w':World}(hb:Below w.heap.size w w')(h:Ze5 x a b s i v w):Ze5 x a b s i v w':=by
 unfold Ze5 at h ⊢
 split at h
 rename_i e;rw[Gx e];exact Zdp hb h;rename_i e;rw[Gw e];clear e
 split at h
 rename_i e;rw[Gx e];exact h;rename_i e;rw[Gw e];clear e
 split at h
 rename_i e;rw[Gx e];exact Zdp hb h;rename_i e;rw[Gw e];clear e
 split at h
 rename_i e;rw[Gx e];exact h;rename_i e;rw[Gw e];clear e
 split at h
 rename_i e;rw[Gx e];exact Zdp hb h;rename_i e;rw[Gw e];clear e
 split at h
 rename_i e;rw[Gx e];exact Zdp hb h;rename_i e;rw[Gw e];clear e
 split at h
 rename_i e;rw[Gx e];exact Zdp hb h;rename_i e;rw[Gw e];clear e
 split at h
 rename_i e;rw[Gx e];exact Zu9 hb h;rename_i e;rw[Gw e];clear e
 split at h
 rename_i e;rw[Gx e];exact Zdp hb h;rename_i e;rw[Gw e];clear e
 split at h
 rename_i e;rw[Gx e];exact h;rename_i e;rw[Gw e];trivial
def Zi4(B0:Nat)(q:Rat)(i:Nat)(v:Value)(w:World):Prop:=
 if i=1 then Ziq v 1 w else Zav B0 q 2 3 4 5 6 5 i v w
theorem Zvd{B0:Nat}{q:Rat}{i:Nat}{v:Value}{w w':World}(hb:Below w.heap.size w w')(h:Zi4 B0 q i v w):Zi4 B0 q i v w':=by
 unfold Zi4 at h ⊢
 split at h
 rename_i e;rw[Gx e];exact Zdp hb h;rename_i e;rw[Gw e];exact Zhm hb h
theorem Zqj{z:Int}(h:I64 z):z.natAbs<=9223372036854775808:=by unfold I64 at h;omega
theorem big6:9223372036854775808*(9223372036854775808*9223372036854775808)*1000<pw 4096:=
 QQ (show _<pw 7 from by decide) (Zb6 Gj)
theorem Zo7{a b:Int}(ha:I64 a)(hb:I64 b):(a*b).natAbs<=9223372036854775808*9223372036854775808:=by
 rw[Int.natAbs_mul];exact Nat.mul_le_mul (Zqj ha) (Zqj hb)
theorem Zlv{x a b:Int}(hx:I64 x)(ha:I64 a)(hb:I64 b):(x*(a*b)).natAbs<=9223372036854775808*(9223372036854775808*9223372036854775808):=by
 rw[Int.natAbs_mul];exact Nat.mul_le_mul (Zqj hx) (Zo7 ha hb)
theorem two_pw{a b:Int}(ha:I64 a)(hb:I64 b):(a*b).natAbs<pw 4096:=
 Qm (Zo7 ha hb) (Nat.lt_trans Gj big6)
theorem Z1r{x a b:Int}(hx:I64 x)(ha:I64 a)(hb:I64 b):(x*(a*b)).natAbs<pw 4096:=
 Qm (Zlv hx ha hb) (Nat.lt_trans Gj big6)
theorem Zkp{l:List Int}(h:∀ x ∈ l,I64 x)(i:Nat):I64 (l[i]?.getD 0):=by
 rcases QF i l.length with h1|h1;rw[Qf h1];exact h _ (QW _);rw[Qu h1];unfold I64;decide
theorem Zpd{ws:List Int}{a b:Nat->Int}(hw:∀ x ∈ ws,I64 x):∀ (i:Nat),(∀ j,j<i->I64 (a j)/\I64 (b j))->(Zc1 ws a b i).natAbs<=9223372036854775808*(9223372036854775808*9223372036854775808)*i
 | 0,_=>by simp[Zc1]
 | i+1,h=>by
  have h1:=Zpd hw i (λj hj=>h j Gk);have h2:=Zlv (Zkp hw i) (h i Gk).1 (h i Gk).2;have h3:=Int.natAbs_add_le (Zc1 ws a b i) ((ws[i]?.getD 0)*(a i*b i));rw[Nat.mul_add,Nat.mul_one];show (Zc1 ws a b i+(ws[i]?.getD 0)*(a i*b i)).natAbs<=_;exact Qg h3 (Nat.add_le_add h1 h2)
theorem dotZ_pw{ws:List Int}{a b:Nat->Int}(hw:∀ x ∈ ws,I64 x){i:Nat}(hi:i<=1000)(h:∀ j,j<i->I64 (a j)/\I64 (b j)):(Zc1 ws a b i).natAbs<pw 4096:=
 Qm (Zpd hw i h) (Qm (Nat.mul_le_mul_left _ hi) big6)
theorem Wd.same{w:World}{na:Bool}{A:Option Addr}{n c:Nat}{y z:Int}(h:Wd w na A n c y)(e:y=z):Wd w na A n c z:=e▸h
theorem Zks(z:Int):Rat.divInt z 1=(z:Rat):=by
 exact FG
theorem dot2{x a b s:Int}{v:Value}{w:World}(h:Ze5 x a b s 2 v w):Ziq v x w:=h
theorem dot5{x a b s:Int}{v:Value}{w:World}(h:Ze5 x a b s 5 v w):v=.int .i64 a:=h
theorem dot6{x a b s:Int}{v:Value}{w:World}(h:Ze5 x a b s 6 v w):Ziq v a w:=h
theorem dot9{x a b s:Int}{v:Value}{w:World}(h:Ze5 x a b s 9 v w):v=.int .i64 b:=h
theorem dot10{x a b s:Int}{v:Value}{w:World}(h:Ze5 x a b s 10 v w):Ziq v b w:=h
theorem dot11{x a b s:Int}{v:Value}{w:World}(h:Ze5 x a b s 11 v w):Ziq v (a*b) w:=h
theorem dot12{x a b s:Int}{v:Value}{w:World}(h:Ze5 x a b s 12 v w):Ziq v (x*(a*b)) w:=h
theorem dot13{x a b s:Int}{v:Value}{w:World}(h:Ze5 x a b s 13 v w):numT v (s+x*(a*b)) w:=h
theorem dot14{x a b s:Int}{v:Value}{w:World}(h:Ze5 x a b s 14 v w):numT v (s+x*(a*b)) w:=h
theorem dot15{x a b s:Int}{v:Value}{w:World}(h:Ze5 x a b s 15 v w):Ziq v (s+x*(a*b)) w:=h
theorem dot16{x a b s:Int}{v:Value}{w:World}(h:Ze5 x a b s 16 v w):v=.int .i64 0:=h
theorem end1{B0:Nat}{q:Rat}{v:Value}{w:World}(h:Zi4 B0 q 1 v w):Ziq v 1 w:=h
theorem EQ{G:Prop}(h:G:=by
 rintro e w5 ⟨ao,bZ,A5,k5,c5,rfl,av⟩;exact hK.out _ _ ⟨_,rfl,(by simp only[Ze5];exact⟨_,_,_,_,rfl,av⟩),ao,trivial⟩):G:=h
theorem Zwy(Fa Fb:FuncId)(V U:Array Value)(A:Option Addr)(n c:Nat)(ws:List Int)(a b:Nat->Int)(w:World)(h:LimI w A n c ws)(hn:n<=900)
    (ha:∀ i,i<n->I64 (a i)) (hb:∀ i,i<n->I64 (b i))
    (hca:∀ (x:Value) (W:World),(callFunc Fa (#[x]++V)).run Tryz.prog W=.ok (.enter Fa (#[x]++V)) W)
    (hcb:∀ (x:Value) (W:World),(callFunc Fb (#[x]++U)).run Tryz.prog W=.ok (.enter Fb (#[x]++U)) W)
    (hA:∀ (W:World) (i:Nat),Below w.heap.size w W->i<n->Calls Tryz.prog Fa (#[.int .i64 i]++V) W λe W'=>e=.returned (.int .i64 (a i))/\Below W.heap.size W W')
    (hB:∀ (W:World) (i:Nat),Below w.heap.size w W->i<n->Calls Tryz.prog Fb (#[.int .i64 i]++U) W λe W'=>e=.returned (.int .i64 (b i))/\Below W.heap.size W W') :
    Calls Tryz.prog 94 #[.slice A n c,.func (.func Fa) #[] V,.func (.func Fb) #[] U] w (Zdt w ((Zc1 ws a b n:Int):Rat)):=by
 have hmx:=Gt;have f6:=h.1;have f7:=h.2.1;have f0:=h.2.2.1;unfold maxLen at f0;have e1:=Zb h.2.2.2.1;have hg:=Zb h.2.2.2.2;replace hA:=Zb hA;replace hB:=Zb hB;have e4:=Zb ha;have d6:=Zb hb;clear h ha hb;obtain⟨W0,e3,e5,⟨q0,q1⟩,s0⟩:=Zdb w 41 #[.bool false,.slice none 0 0,.bool false,.slice none 0 0] 39 #[.bool false,.slice none 0 0];obtain⟨gr,a3⟩:=Gz w.heap.size;rw[a3]at q0 q1;obtain⟨gs,a4⟩:=Gz (gr+1);rw[a4]at q1;have f5:w.heap.size<=gr:=Gk;have e0:w.heap.size<=gs:=Gk;have e2:gr≠gs:=Gk;have d7:Wd W0 false none 0 0 0:=Wd.zero _;go_in;go_wp2_with fail;(try rw[e3]);(try rw[a3]);(try rw[a4]);replace a3:=Zb a3;replace a4:=Zb a4;clear e3 s0
 go_loopw [14] (λiv wr=>∃ (i:Nat) (sn:Bool) (sA:Option Addr) (sk sc:Nat),i<=n/\iv=.int .i64 i/\Wd wr sn sA sk sc (Zc1 ws a b i)/\Blk wr gs 39 #[.bool sn,.slice sA sk sc]/\Blk wr gr 41 #[.bool false,.slice none 0 0,.bool false,.slice none 0 0]/\Below w.heap.size w wr) (λiv _=>n-(intOf iv).toNat)
 case atStart=>exact⟨0,false,none,0,0,QA _,rfl,d7,q1,q0,e5⟩
 case round =>
  clear q0 q1 e5 d7;obtain⟨i,sn,sA,sk,sc,f8,rfl,hs,qs,qr,I⟩:=hrel;obtain⟨s0,s1,s2,s3⟩:=qs.two;replace hs:=Zb hs;replace qs:=Zb qs;replace qr:=Zb qr;by_cases hin:i<n
  case neg =>
   obtain rfl:n=i:=Gk;have f3:decide ((n:Int)<(n:Int))=false:=Gh;generalize Zc1 ws a b n=D at *;go_wp2_with fail;have J:Hid (∀ wx,Below wr.heap.size wr wx->wx.cell? ⟨gs,0,none⟩=some (.bool sn)/\wx.cell? ⟨gs,1,none⟩=some (.slice sA sk sc)):=Zb (λwx f=>⟨Za f s0,Za f s1⟩);have C:Below wr.heap.size wr wr.drew:=Zf (Qa _ _) 1;refine wp_heldS [] hmx J C (λhxs2=>?_);refine Zj9 1 [0] rfl Gi (J.out _ C) ?_
   (refine tkA ?_;try simp only[Qc,Zhb,Zgo,Zg6,Gr,Gq,Gp])
   refine tk0 ?_;refine Za1 [(1,39),(2,40),(3,37),(4,41),(6,10)] (λi=>match i with|3=>[5]|_=>[]) [(1,39),(2,40),(3,37),(5,42),(4,41),(6,10)] (Zi4 wr.heap.size (D:Rat)) 2 Gi (λ_ _ _ _ _ hb h=>Zvd hb h) (λwx h=>J.out _ (Gs C h)) ?hop2 ?hfin2
   case hop2 =>
    intro p hp;simp only[Qs,Qo,or_false]at hp;simp only[Qi,Qj,Zam,Qc,Zhb,Zgo,Zg6];rcases hp with rfl|rfl|rfl|rfl|rfl
    ·intro ν wx hb hP
     refine Zm (i:=1) rfl (λK hK=>?_);go_simp;refine(Zbz 1 wx Gj Gj).mono ?_;rintro e w5 ⟨ao,bZ,A5,k5,c5,rfl,av⟩;exact hK.out _ _ ⟨_,rfl,(by simp only[Zi4,Zav];exact⟨_,_,_,_,rfl,av⟩),ao,trivial⟩
    ·intro ν wx hb hP
     have f:=Gs C hb;have h3:=end1 (hP (1,39) Gh Gi);obtain⟨a2,A3,k3,c3,hν3,O⟩:=h3;rw[hν3];obtain rfl:a2=false:=O.1;refine Zm (i:=2) rfl (λK hK=>?_);go_simp;refine(Zgj sn sA A3 sk sc k3 c3 D 1 wx (hs.out.below f) O Gj).mono ?_;rintro e w5 ⟨ao,bZ,A5,k5,c5,e6,B5,m5,d5,rfl,av⟩;rw[Zks]at av;exact hK.out _ _ ⟨_,rfl,(by simp only[Zi4,Zav];exact⟨_,_,_,_,_,_,_,_,rfl,av⟩),ao,trivial⟩
    ·intro ν wx hb hP
     have h0:=hP (2,40) Gh Gi;simp only[Zi4,Zav]at h0;obtain⟨bZ,A5,k5,c5,e6,B5,m5,d5,hν,av⟩:=h0;rw[hν];refine Zm (i:=3) rfl (λK hK=>?_);go_simp;refine hK.out _ _ ⟨_,rfl,(by simp only[Zi4,Zav];exact⟨_,_,_,_,_,_,_,_,rfl,av⟩),Qa _ _,?_⟩;exact⟨_,.int .i64 0,rfl,Or.inl ⟨by kernel_rfl,λW2 _=>by go_simp⟩,by simp[Zi4,Zav],trivial⟩
    ·intro ν wx hb hP
     have h0:=hP (3,37) Gh Gi;simp only[Zi4,Zav]at h0;obtain⟨bZ,A5,k5,c5,e6,B5,m5,d5,hν,av⟩:=h0;rw[hν];refine Zm (i:=4) rfl (λK hK=>?_);go_simp;exact hK.out _ _ ⟨_,rfl,(by simp only[Zi4,Zav];exact⟨_,_,_,_,_,_,_,_,rfl,av⟩),Qa _ _,trivial⟩
    intro ν wx hb hP;refine Zm (i:=6) rfl (λK hK=>?_);go_simp;exact hK.out _ _ ⟨_,rfl,(by simp only[Zi4,Zav];exact⟨_,rfl,(Gs C hb).size,QN _ _ _⟩),(Qa _ _).alloc (Qb _) _,trivial⟩
   case hfin2 =>
    intro ν wx hb hP;have h0:=end1 (hP (1,39) Gh);have h1:=hP (2,40) Gh;have h2:=hP (3,37) Gh;have h3:=hP (5,42) Gh;have h4:=hP (4,41) Gh;have h5:=hP (6,10) Gh;simp only[Zi4,Zav]at h1 h2 h4 h5;obtain⟨_,_,_,_,h0,-⟩:=h0;obtain⟨_,_,_,_,_,_,_,_,h1,-⟩:=h1;obtain⟨_,_,_,_,_,_,_,_,h2,-⟩:=h2;obtain⟨fn,fA,fk,fc,fm,fB,fj,fd,h4,d9⟩:=h4;obtain⟨gv,h5,kv,qv⟩:=h5;simp only[Qi,Qj,Zam,Qc,Zhb,Zgo,Zg6];rw[h0,h1,h2,(show ν 42=Value.int .i64 0 by simpa [Zi4,Zav]using h3),h4,h5];clear h0 h1 h2 h3 h4 h5 hP ν;have f:=Gs C hb;have a9:=Zc f qr.out;have d8:gr≠gv:=by have:=qr.out.lt;omega
    obtain⟨V,hV,f4,q6,kV⟩:=Zaa (B:=gv) fn fA fk fc fm fB fj fd (Qa gv wx) (Qb _) qv
    have a8:Below w.heap.size w V:=by
     rw[<- hV];have b8:w.heap.size<=gv:=Qg I.size kv;exact((((Gs I f).setCell (p:=⟨gv,0,none⟩) b8 _).setCell (p:=⟨gv,1,none⟩) b8 _).setCell (p:=⟨gv,2,none⟩) b8 _).setCell (p:=⟨gv,3,none⟩) b8 _
    have c7:Hid (Below wr.heap.size wr V):=Zb (by rw[<- hV];exact(((f.setCell (p:=⟨gv,0,none⟩) kv _).setCell (p:=⟨gv,1,none⟩) kv _).setCell (p:=⟨gv,2,none⟩) kv _).setCell (p:=⟨gv,3,none⟩) kv _);have c6:=Zb (Fr.keep d9 kV.1);have Y:=kV.2.1 gr _ _ d8 a9;obtain⟨y0,y1,y2,y3,y4,y5,y6,y7⟩:=qv.four;replace q6:=Zb q6;replace Y:=Zb Y;replace a8:=Zb a8;clear d9 kV a9 f4 qv;refine wpAnyL_o 7 λK hK=>?_;go_simp;(try rw[hV]);refine hK.out _ _ (λ_=>J.out _ (c7.out)) ?_;clear hK K
    try simp only[Qc,Zhb,Zgo,Zg6]
    refine Zgp 1 [8] rfl Gi (J.out _ c7.out) ?_
    (refine tkA ?_;try simp only[Qc,Zhb,Zgo,Zg6,Gr,Gq,Gp])
    refine tk0 ?_;refine wpAnyL_fin ?_;clear hV y0 y1 y2 y3 y4 y5 y6 y7 f hb C J hxs2 s0 s1 c7;obtain⟨z0,z1,z2,z3,-⟩:=q6.out.four;obtain⟨r0,r1,r2,r3,r4,r5,r6,r7⟩:=Y.out.four;go_wp2_with fail;obtain⟨X,hX,e8,q8,st⟩:=Zaa fn fA fk fc fm fB fj fd a8.out f5 Y.out;(try rw[hX]);obtain⟨x0,x1,x2,x3,-⟩:=q8.four;refine bodyPost_ret (v:=.agg #[.bool fn,.slice fA fk fc,.bool fm,.slice fB fj fd]) (by simp[results,Tryz.results94,go_sem,x0,x1,x2,x3]) rfl ?_;exact⟨e8,_,_,_,_,_,_,_,_,rfl,Fr.keep c6.out st.1⟩
  have f3:decide ((i:Int)<(n:Int))=true:=Gv Gk;obtain⟨g,o,rfl,d0⟩:=hg.out Gk;have ci:=(I.cell (Zo (d0 i hin))).trans (d0 i hin);clear d0;have hx:=Zkp e1.out i;have ha:=e4.out i hin;have a6:=d6.out i hin;have a1:(Zc1 ws a b i+(ws[i]?.getD 0)*(a i*b i)).natAbs<pw 4096:=dotZ_pw (i:=i+1) e1.out Gk (λj hj=>⟨e4.out j Gk,d6.out j Gk⟩);have y:Zc1 ws a b (i+1)=Zc1 ws a b i+(ws[i]?.getD 0)*(a i*b i):=rfl;rw[<- y]at a1;replace y:=Zb y;obtain⟨x,c2⟩:=Gz (ws[i]?.getD 0);obtain⟨a0,b1⟩:=Gz (a i);obtain⟨b0,b2⟩:=Gz (b i);obtain⟨s,c9⟩:=Gz (Zc1 ws a b i);replace y:=y.out;rw[c2,b1,b2,c9]at y;rw[y]at a1;rw[c2]at hx ci;rw[b1]at ha;rw[b2]at a6;rw[c9]at hs;replace a1:=Zb a1;replace y:=Zb y;replace b1:=Zb b1;replace b2:=Zb b2;clear c2 c9;go_wp2_with fail;have T:Hid (∀ wx,Below wr.heap.size wr wx->wx.cell? ⟨g,o+i,none⟩=some (.int .i64 x)/\wx.cell? ⟨gs,0,none⟩=some (.bool sn)/\wx.cell? ⟨gs,1,none⟩=some (.slice sA sk sc)):=Zb (λwx f=>⟨Za f ci,Za f s0,Za f s1⟩);have u:Below wr.heap.size wr wr.drew:=Zf (Qa _ _) 1;refine wp_heldS [17] hmx T u (λhxs1=>?_);refine Zj9 1 [0] rfl Gi (T.out _ u) ?_
  (refine tkA ?_;try simp only[Qc,Zhb,Zgo,Zg6,Gr,Gq,Gp])
  refine tk0 ?_;refine Zgp 5 [1,3,4,7,8] rfl Gi (T.out _ u) ?_
  iterate 5 (refine tkA ?_;try simp only[Qc,Zhb,Zgo,Zg6,Gr,Gq,Gp])
  refine tk0 ?_;refine Za1 [(2,22),(5,25),(6,26),(9,29),(10,30),(11,31),(12,32),(13,33),(14,19)] (λi=>match i with|14=>[15,16]|_=>[]) [(2,22),(5,25),(6,26),(9,29),(10,30),(11,31),(12,32),(13,33),(14,19),(15,34),(16,35)] (Ze5 x a0 b0 s) 1 Gi (λ_ _ _ _ _ hb h=>Zt0 hb h) (λwx h=>T.out _ (Gs u h)) ?hop1 ?hfin1
  case hop1 =>
   intro p hp;simp only[Qs,Qo,or_false]at hp;simp only[Qi,Qj,Zam,Qc,Zhb,Zgo,Zg6];rcases hp with rfl|rfl|rfl|rfl|rfl|rfl|rfl|rfl|rfl
   ·intro ν wx hb hP
    have f:=Gs u hb;refine Zm (i:=2) rfl (λK hK=>?_);go_simp;refine(Zbz x wx hx.1 hx.2).mono ?_;exact EQ
   ·intro ν wx hb hP
    have f:=Gs u hb;refine Zm (i:=5) rfl (λK hK=>?_);go_simp;refine(hA.out wx i (Gs I f) hin).mono ?_;rintro e w5 ⟨rfl,ao⟩;exact hK.out _ _ ⟨_,rfl,(show Value.int .i64 _=Value.int .i64 _ from by rw[b1.out]),ao,trivial⟩
   ·intro ν wx hb hP
    have f:=Gs u hb;have h3:=hP (5,25) Gh Gi;replace h3:=dot5 h3;rw[h3];refine Zm (i:=6) rfl (λK hK=>?_);go_simp;refine(Zbz a0 wx ha.1 ha.2).mono ?_;exact EQ
   ·intro ν wx hb hP
    have f:=Gs u hb;refine Zm (i:=9) rfl (λK hK=>?_);go_simp;refine(hB.out wx i (Gs I f) hin).mono ?_;rintro e w5 ⟨rfl,ao⟩;exact hK.out _ _ ⟨_,rfl,(show Value.int .i64 _=Value.int .i64 _ from by rw[b2.out]),ao,trivial⟩
   ·intro ν wx hb hP
    have f:=Gs u hb;have h3:=hP (9,29) Gh Gi;replace h3:=dot9 h3;rw[h3];refine Zm (i:=10) rfl (λK hK=>?_);go_simp;refine(Zbz b0 wx a6.1 a6.2).mono ?_;exact EQ
   ·intro ν wx hb hP
    have f:=Gs u hb;have h3:=hP (6,26) Gh Gi;replace h3:=dot6 h3;obtain⟨a2,A3,k3,c3,hν3,O⟩:=h3;rw[hν3];have h4:=hP (10,30) Gh Gi;replace h4:=dot10 h4;obtain⟨a5,A4,k4,c4,hν4,a7⟩:=h4;rw[hν4];refine Zm (i:=11) rfl (λK hK=>?_);go_simp;refine(Zii a2 a5 A3 A4 k3 c3 k4 c4 _ _ wx O a7 (two_pw ha a6)).mono ?_;exact EQ
   ·intro ν wx hb hP
    have f:=Gs u hb;have h3:=hP (2,22) Gh Gi;replace h3:=dot2 h3;obtain⟨a2,A3,k3,c3,hν3,O⟩:=h3;rw[hν3];have h4:=hP (11,31) Gh Gi;replace h4:=dot11 h4;obtain⟨a5,A4,k4,c4,hν4,a7⟩:=h4;rw[hν4];refine Zm (i:=12) rfl (λK hK=>?_);go_simp;refine(Zii a2 a5 A3 A4 k3 c3 k4 c4 _ _ wx O a7 (Z1r hx ha a6)).mono ?_;exact EQ
   ·intro ν wx hb hP
    have f:=Gs u hb;have h4:=hP (12,32) Gh Gi;replace h4:=dot12 h4;obtain⟨a5,A4,k4,c4,hν4,a7⟩:=h4;rw[hν4];refine Zm (i:=13) rfl (λK hK=>?_);go_simp;refine(Zk7 sn a5 sA A4 sk sc k4 c4 _ _ wx (hs.out.below f) a7).mono ?_;rintro e w5 ⟨ao,bZ,A5,k5,c5,code,rfl,hR⟩;rcases hR with ⟨_,rfl,av⟩|⟨e7,_⟩;exact hK.out _ _ ⟨_,rfl,(by simp only[Ze5];exact⟨_,_,_,_,rfl,av⟩),ao,trivial⟩;exact absurd e7 (Nat.not_le.2 a1.out)
   intro ν wx hb hP;have f:=Gs u hb;have h3:=hP (13,33) Gh Gi;replace h3:=dot13 h3;obtain⟨a2,A3,k3,c3,hν3,O⟩:=h3;rw[hν3];refine Zm (i:=14) rfl (λK hK=>?_);go_simp;refine hK.out _ _ ⟨_,rfl,(by simp only[Ze5];exact⟨_,_,_,_,rfl,O⟩),Qa _ _,?_⟩;refine⟨_,.agg #[.bool a2,.slice A3 k3 c3],rfl,Or.inl ⟨by kernel_rfl,λW2 _=>by go_simp⟩,(by simp only[Ze5];exact⟨_,_,_,_,rfl,O⟩),?_⟩;exact⟨_,.int .i64 0,rfl,Or.inl ⟨by kernel_rfl,λW2 _=>by go_simp⟩,rfl,trivial⟩
  case hfin1 =>
   intro ν wx hb hP;have h2:=dot2 (hP (2,22) Gh);have h5:=dot5 (hP (5,25) Gh);have h6:=dot6 (hP (6,26) Gh);have h9:=dot9 (hP (9,29) Gh);have b6:=dot10 (hP (10,30) Gh);have b9:=dot11 (hP (11,31) Gh);have b7:=dot12 (hP (12,32) Gh);have b3:=dot13 (hP (13,33) Gh);have b4:=dot14 (hP (14,19) Gh);have b5:=dot15 (hP (15,34) Gh);have d4:=dot16 (hP (16,35) Gh);obtain⟨_,_,_,_,h2,-⟩:=h2;obtain⟨_,_,_,_,h6,-⟩:=h6;obtain⟨_,_,_,_,b6,-⟩:=b6;obtain⟨_,_,_,_,b9,-⟩:=b9;obtain⟨_,_,_,_,b7,-⟩:=b7;obtain⟨_,_,_,_,b3,-⟩:=b3;obtain⟨_,_,_,_,b4,-⟩:=b4;obtain⟨n5,A5,k5,c5,b5,av⟩:=b5;simp only[Qi,Qj,Zam,Qc,Zhb,Zgo,Zg6];rw[h2,h5,h6,h9,b6,b9,b7,b3,b4,b5,d4];clear h2 h5 h6 h9 b6 b9 b7 b3 b4 b5 d4 hP ν;have f:=Gs u hb;have c8:=Zc f qs.out;have a9:=Zc f qr.out;obtain⟨W6,c0,e9,q6,c1⟩:=Zau (B:=gs) n5 A5 k5 c5 (Qa gs wx) (Qb _) c8
   have d3:Below w.heap.size w W6:=by
    rw[<- c0];exact((Gs I f).setCell (p:=⟨gs,0,none⟩) e0 _).setCell (p:=⟨gs,1,none⟩) e0 _
   have c6:=Zb (c1.1 _ _ _ _ _ av);have Y:=c1.2.1 gr _ _ e2 a9;obtain⟨y0,y1,y2,y3⟩:=c8.two;replace q6:=Zb q6;replace Y:=Zb Y;replace d3:=Zb d3;clear av c1 c8 a9 e9;refine Zv (i:=17) rfl Gi Gi (λK hK=>?_);go_simp;(try rw[c0]);refine hK.out _ _ ?_;clear hK K
   try simp only[Qc,Zhb,Zgo,Zg6]
   refine wpAnyL_fin ?_;clear c0 y0 y1 y2 y3 f hb u T hxs1 ci s0 s1;go_wp2_with fail
   go_roundw
   case rel=>exact⟨i+1,n5,A5,k5,c5,by omega,by go_num,c6.out.same y.out.symm,q6.out,Y.out,d3.out⟩
   case measure=>simp[intOf];omega
def Zdy(f:Nat->List Rat)(n i t:Nat):List (List Rat):=(Qq n).map λj=>if j<i then f j else if j=i then (f j).take t else []
theorem Zxk(f:Nat->List Rat)(n i t:Nat):(Zdy f n i t).length=n:=by unfold Zdy;simp
theorem Zpg{f:Nat->List Rat}{n i t j:Nat}(hj:j<n):(Zdy f n i t)[j]?.getD []=if j<i then f j else if j=i then (f j).take t else []:=by
 unfold Zdy;rw[Qe,Ql hj];rfl
theorem Zve(f:Nat->List Rat)(n:Nat):Zdy f n 0 0=Qd n []:=by
 unfold Zdy;apply QT;intro j;rw[Qe];by_cases hj:j<n;rw[Ql hj,Qw,Gw (Nat.not_lt_zero _),QZ,ite_self,Qk,Gx hj];rw[Qu (by simpa using hj),Qk,Gw hj];rfl
theorem Zt3{f:Nat->List Rat}{n i t:Nat}(h:(f i).length<=t):Zdy f n i t=Zdy f n (i+1) 0:=by
 unfold Zdy;refine Qz λj hj=>?_;rcases Nat.lt_trichotomy j i with h1|h1|h1;rw[Gx h1,Gx Gk];subst h1;rw[Gw (QB _),Gx rfl,Gx Gk,QK h];rw[Gw Gk,Gw Gk,Gw Gk,QZ,ite_self]
theorem Zye(f:Nat->List Rat)(n:Nat):Zdy f n n 0=(Qq n).map f:=by
 unfold Zdy;refine Qz λj hj=>?_;rw[Gx (by simpa using hj)]
theorem Zo5{f:Nat->List Rat}{n i t:Nat}{x:Rat}(hi:i<n)(hx:(f i)[t]?=some x):(Zdy f n i t).set i ((Zdy f n i t)[i]?.getD [] ++ [x])=Zdy f n i (t+1):=by
 apply QT;intro j;rw[List.getElem?_set,Zxk,Zpg hi,Gw (QB _),Gx rfl];by_cases hij:i=j
 ·subst hij
  rw[Gx rfl,Gx hi];unfold Zdy;rw[Qe,Ql hi,Qw,Gw (QB _),Gx rfl,QU,hx];rfl
 rw[Gw hij];unfold Zdy;rw[Qe,Qe];by_cases hj:j<n
 ·rw[Ql hj]
  simp only[Qw,Option.some.injEq];by_cases h:j<i;rw[Gx h,Gx h];rw[Gw h,Gw h,Gw Gk,Gw Gk]
 rw[Qu (by simpa using hj)];rfl
def Zcg(rs:List RI)(k i:Nat):Int:=((rs[i]?.map RI.l).getD [])[k]?.getD 0
def Zjt(l:List Int)(i:Nat):Int:=l[i]?.getD 0
def Zf3(rs:List RI)(rr ws:List Int)(n m i:Nat):List Rat:=(Qq m).map (λk=>((Zc1 ws (Zcg rs i) (Zcg rs k) n:Int):Rat)) ++ [((Zc1 ws (Zcg rs i) (Zjt rr) n:Int):Rat)]
def Zpc(rs:List RI)(rr ws:List Int)(n m:Nat):List (List Rat):=(Qq m).map (Zf3 rs rr ws n m)
theorem Zk1(rs:List RI)(rr ws:List Int)(n m i:Nat):(Zf3 rs rr ws n m i).length=m+1:=by unfold Zf3;simp
theorem Z1o{rs:List RI}{rr ws:List Int}{n m i k:Nat}(h:k<m):(Zf3 rs rr ws n m i)[k]?=some ((Zc1 ws (Zcg rs i) (Zcg rs k) n:Int):Rat):=by
 unfold Zf3;rw[Qp (by simpa using h),Qe,Ql h];rfl
theorem Zyo{rs:List RI}{rr ws:List Int}{n m i:Nat}:(Zf3 rs rr ws n m i)[m]?=some ((Zc1 ws (Zcg rs i) (Zjt rr) n:Int):Rat):=by
 unfold Zf3;rw[QC Gh];simp
theorem colI_at{rs:List RI}{i k:Nat}{r:RI}(h:rs[i]?=some r):Zcg rs k i=r.l[k]?.getD 0:=by unfold Zcg;rw[h];rfl
theorem MIL.i64{w:World}{A:Option Addr}{n c:Nat}{rs:List RI}(h:MIL w A n c rs)(k i:Nat):I64 (Zcg rs k i):=by
 unfold Zcg;cases hr:rs[i]? with
 | none=>unfold I64;simp
 | some r=>exact Zkp (h.2.2.2.1 r (Qh hr)).2.2.2.1 k
def colG(gR:Nat)(k:Nat)(v:Value)(w:World):Prop:=∃ g,v=.func (.func 92) #[] #[.pointer (some ⟨gR,0,none⟩),.pointer (some ⟨g,0,none⟩)]/\Blk w g 3 #[.int .i64 k]
def fracG(v:Value)(q:Rat)(w:World):Prop:=∃ na A n c nb B m d,v=.agg #[.bool na,.slice A n c,.bool nb,.slice B m d]/\Fr w na A n c nb B m d q
theorem Zm8{gR k:Nat}{v:Value}{w w':World}(hb:Below w.heap.size w w')(h:colG gR k v w):colG gR k v w':=by
 obtain⟨g,e,h1⟩:=h;exact⟨g,e,Zc hb h1⟩
theorem Zsn{v:Value}{q:Rat}{w w':World}(hb:Below w.heap.size w w')(h:fracG v q w):fracG v q w':=by
 exact Fc
def Zi3(c1 c2 dt:Nat)(gR i k:Nat)(q:Rat)(j:Nat)(v:Value)(w:World):Prop:=if j=c1 then colG gR i v w else if j=c2 then colG gR k v w else if j=dt then fracG v q w else True
theorem Zni{c1 c2 dt gR i k:Nat}{q:Rat}{j:Nat}{v:Value}{w w':World}(hb:Below w.heap.size w w')(h:Zi3 c1 c2 dt gR i k q j v w):Zi3 c1 c2 dt gR i k q j v w':=by
 unfold Zi3 at h ⊢
 split at h
 rename_i e;rw[Gx e];exact Zm8 hb h;rename_i e;rw[Gw e];clear e
 split at h
 rename_i e;rw[Gx e];exact Zm8 hb h;rename_i e;rw[Gw e];clear e
 split at h
 rename_i e;rw[Gx e];exact Zsn hb h;rename_i e;rw[Gw e];trivial
theorem Zlg(x y z:Value)(W:World):(callFunc 92 #[x,y,z]).run Tryz.prog W=.ok (.enter 92 #[x,y,z]) W:=by simp[go_sem]
theorem Zvs(x y:Value)(W:World):(callFunc 93 #[x,y]).run Tryz.prog W=.ok (.enter 93 #[x,y]) W:=by simp[go_sem]
theorem Zk3(gR k:Nat)(w:World) :
    Calls Tryz.prog 91 #[.int .i64 k,.pointer (some ⟨gR,0,none⟩)] w λe w'=>∃ v,e=.returned v/\Below w.heap.size w w'/\colG gR k v w':=by
 obtain⟨W0,h,f,q0,s0⟩:=Zan w 3 #[.int .i64 k];go_in;go_wp2_with fail;(try rw[h]);go_ret;exact⟨_,rfl,f,_,rfl,q0⟩
theorem Zjs(A:Option Addr)(n c m:Nat)(rs:List RI)(gR g k i:Nat)(w:World)(h:MIL w A n c rs)(hR:w.cell? ⟨gR,0,none⟩=some (.slice A n c))(hg:w.cell? ⟨g,0,none⟩=some (.int .i64 k))(hi:i<n)(hk:k<m)(hm:∀ r ∈ rs,r.n=m)(hm9:m<=900)(hn9:n<=900) :
    Calls Tryz.prog 92 #[.int .i64 i,.pointer (some ⟨gR,0,none⟩),.pointer (some ⟨g,0,none⟩)] w λe w'=>e=.returned (.int .i64 (Zcg rs k i))/\Below w.heap.size w w':=by
 obtain⟨ga,oa,r,rfl,hr,c0,hL⟩:=h.at_ hi;have u:=hm r (Qh hr);have hl:=hL.1;obtain⟨gb,ob,o,f⟩:=hL.2.2.2.2 Gk;have c1:=f k Gk;rw[colI_at hr];rw[o,u]at c0;obtain⟨z,hz⟩:=Gz (r.l[k]?.getD 0);rw[hz]at c1 ⊢;clear hz;have b1:(i:Int)<(n:Int):=Gk;have b2:(k:Int)<(m:Int):=Gk;clear h hL f hr hm;go_in;go_wp2_with fail
 go_quiet (fail)
 exact Fo
theorem side_ok(B:Option Addr)(n d:Nat)(rr:List Int)(gT i:Nat)(w:World)(h:LimI w B n d rr)(hT:w.cell? ⟨gT,0,none⟩=some (.slice B n d))(hi:i<n)(hn9:n<=900) :
    Calls Tryz.prog 93 #[.int .i64 i,.pointer (some ⟨gT,0,none⟩)] w λe w'=>e=.returned (.int .i64 (Zjt rr i))/\Below w.heap.size w w':=by
 obtain⟨gb,ob,rfl,f⟩:=h.2.2.2.2 Gk;have c1:=f i hi;have b1:(i:Int)<(n:Int):=Gk;unfold Zjt;clear h f;go_in;exact Fo
theorem Cw{G:Prop}(h:G:=by
 obtain⟨cs,a1,-,-⟩:=ai base e;obtain⟨⟨zs,a2⟩,-⟩:=cO;exact gI (a2.type a1)):G:=h
theorem Ip{G:Prop}(h:G:=by
 rw[World.frozen?_of_block (aV.block base (by obtain⟨⟨zs,a2⟩,-⟩:=cO;exact a2.lt) (λe=>bU e.symm))];exact(cO.cell ee).2):G:=h
theorem FA{G:Prop}(h:G:=by
 rintro e w5 ⟨ao,bZ,A5,k5,c5,eo,B5,m5,d5,rfl,av⟩;exact hK.out _ _ ⟨_,rfl,(by simp only[Zi3];exact⟨_,_,_,_,_,_,_,_,rfl,av⟩),ao,trivial⟩):G:=h
theorem FT{G:Prop}(h:G:=by
 rintro e w5 ⟨v5,rfl,ao,jG⟩;exact hK.out _ _ ⟨_,rfl,(by simp only[Zi3];exact jG),ao,trivial⟩):G:=h
theorem CH{G:Prop}(h:G:=by
 intro ν wx hb hP;refine Zm (i:=9) rfl (λK hK=>?_);go_simp;refine(Zk3 gR i wx).mono ?_;exact FT):G:=h
theorem Ztv(A B C:Option Addr)(n c d e0 m:Nat)(rs:List RI)(rr ws:List Int)(w:World)(h:MIL w A n c rs)(hr:LimI w B n d rr)(hw:LimI w C n e0 ws)(hn0:0<n)(hn9:n<=900)(hm0:0<m)(hm9:m<=900)(a3:∀ r ∈ rs,r.n=m) :
    Calls Tryz.prog 55 #[.slice A n c,.slice B n d,.slice C n e0] w λe w'=>∃ go rs',e=.returned (.slice (some ⟨go,0,none⟩) m m)/\Below w.heap.size w w'/\rs'.length=m/\∃ base,w.heap.size<=base/\MatA 35 41 w' base go rs' (Zpc rs rr ws n m):=by
 have hmx:=Gt;have gI:(35:TypeId)≠41:=Gj;obtain⟨iF,hi,e5,f9,f5⟩:=info_parts Ze0;obtain⟨iS,ki,h0,g5,h6⟩:=info_parts Zko;obtain⟨V0,g8,a7,⟨p0,p1⟩,sV⟩:=Zdb w 22 #[.slice A n c] 23 #[.slice B n d];obtain⟨gR,d4⟩:=Gz w.heap.size;rw[d4]at p0 p1;obtain⟨gT,d9⟩:=Gz (gR+1);rw[d9]at p1;obtain⟨base,a8⟩:=Gz V0.heap.size;obtain⟨W0,c4⟩:=Gz (V0.alloc (.cells (Z6 (Qd m Za3)) 35));have I:Below base V0 W0:=by rw[<- c4,<- a8];exact(Qa _ _).alloc (Qb _) _
 have q0:Blk W0 base 35 (Z6 (Qd m Za3)):=by rw[<- c4,<- a8];exact QN _ _ _
 have e7:w.heap.size<=base:=by rw[<- a8];exact a7.size
 have c1:base<=W0.heap.size:=by rw[<- c4];simp[a8]
 have f8:Below V0.heap.size V0 W0:=by rw[a8];exact I
 have b5:∀ wx,Below base W0 wx->Below V0.heap.size V0 wx:=λwx hb=>by rw[a8];exact I.trans hb
 have e4:Hid (∀ wx,Below base W0 wx->MIL wx A n c rs):=Zb (λwx hb=>(h.below a7).below (b5 wx hb));have e6:Hid (∀ wx,Below base W0 wx->LimI wx B n d rr):=Zb (λwx hb=>(hr.below a7).below (b5 wx hb));have f0:Hid (∀ wx,Below base W0 wx->LimI wx C n e0 ws):=Zb (λwx hb=>(hw.below a7).below (b5 wx hb));have cR:Hid (∀ wx,Below base W0 wx->wx.cell? ⟨gR,0,none⟩=some (.slice A n c)):=Zb (λwx hb=>Za (b5 wx hb) (p0.cell 0));have cT:Hid (∀ wx,Below base W0 wx->wx.cell? ⟨gT,0,none⟩=some (.slice B n d)):=Zb (λwx hb=>Za (b5 wx hb) (p1.cell 0))
 have e9:Hid (MatA 35 41 W0 base base (Qd m Za3) (Zdy (Zf3 rs rr ws n m) m 0 0)):=Zb (by
  rw[Zve];refine⟨⟨[],by rw[List.append_nil];exact q0⟩,Qb _,by simp,λi r hr=>?_,λi j r s k hr hs hij h1=>?_⟩
  ·rw[Qk]at hr
   split at hr
   ·rename_i hi
    cases hr;rw[Qk,Gx hi];exact OwnF.nil _ _ _
   cases hr
  rw[Qk]at hr
  split at hr
  cases hr;cases h1;cases hr)
 obtain⟨g0,o0,r0,e8,a0,f3,-⟩:=(h.below a7).at_ (i:=0) hn0;rw[e8]at p0;have e3:=a3 r0 (Qh a0);rw[QR,e3]at f3;have g9:V0.cell? ⟨gR,0,none⟩=some (.slice (some ⟨g0,o0,none⟩) n c):=p0.cell 0;have g7:=Zqq (P:=Tryz.prog) 25 35 Tryz.underlying25 ki h0 g5 h6 (m:Int) m rfl Gk V0;subst e8;replace a3:=Zb a3;replace g1:=Zb (Gs a7 f8);replace hr:=Zb hr;clear p0 p1 q0 I h hw a0 f8 b5;have g2:gT+1=base:=Gk;subst g8;go_in;go_wp2_with fail;replace d4:=Zb d4;replace d9:=Zb d9;replace g2:=Zb g2;clear g9 f3 g7 a8 c4 sV a7
 go_loopg [21] m (λk iv wr=>∃ (i:Nat) (c3:List RS),i+k=m/\iv=.int .i64 i/\Hid (c3.length=m)/\MatA 35 41 wr base base c3 (Zdy (Zf3 rs rr ws n m) m i 0)/\Below base W0 wr)
 case atStart=>exact⟨0,Qd m Za3,by omega,rfl,Zb Gh,e9.out,Qa _ _⟩
 case round =>
  clear e9;obtain⟨i,c3,h8,rfl,b1,hM,T⟩:=hrel;cases gk with
  | zero =>
   obtain rfl:i=m:=Gk;have t2:decide ((i:Int)<(i:Int))=false:=Gh;have g6:=g1.out.trans (T.mono e7);rw[Zye]at hM;replace hM:=Zb hM;go_wp2_with fail;go_ret;exact⟨base,c3,rfl,g6,b1.out,base,e7,hM.out⟩
  | succ k' =>
   obtain rfl:k'=m-(i+1):=Gk;have b4:i<m:=Gk;have t2:decide ((i:Int)<(m:Int))=true:=Gv Gk;have bi:(i:Int)<(m:Int):=Gk;replace hM:=Zb hM;replace T:=Zb T;go_wp2_with fail
   go_loopg [26] m (λk kv wx=>∃ (t:Nat) (b6:List RS),t+k=m/\kv=.int .i64 t/\Hid (b6.length=m)/\MatA 35 41 wx base base b6 (Zdy (Zf3 rs rr ws n m) m i t)/\Below base W0 wx)
   case atStart=>exact⟨0,c3,by omega,rfl,b1,hM.out,T.out⟩
   case round =>
    clear hM T b1;obtain⟨t,b6,h7,rfl,b1,hM,T⟩:=hrel
    have c8:((Zdy (Zf3 rs rr ws n m) m i t)[i]?.getD []).length+1<=1000:=by
     rw[Zpg b4,Gw (QB _),Gx rfl,QH,Zk1];omega
    have f:base<=wr.heap.size:=Qg c1 T.size;obtain⟨r,ee⟩:=Zb0 (L:=b6) (i:=i) (by rw[b1.out];exact b4);obtain⟨cr,zr⟩:=hM.cell ee;replace hM:=Zb hM;replace c8:=Zb c8;cases gk with
    | zero =>
     obtain rfl:m=t:=Gk;have t3:decide ((m:Int)<(m:Int))=false:=Gh;go_wp2_with fail;obtain⟨X0,b2⟩:=Gz wr.drew;have y:Below wr.heap.size wr X0:=by rw[<- b2];exact Zf (Qa _ _) 1
     have u:Hid (∀ wx,Below wr.heap.size wr wx->wx.cell? ⟨base,i,none⟩=some (.slice r.A r.n r.c)):=Zb (λwx O=>Za O cr);refine wp_heldS [15] hmx u (by rw[b2];exact y) (λhxs=>?_);rw[b2];refine Zj9 10 [0,1,2,3,4,5,6,7,8,10] rfl Gi (u.out _ y) ?_
     iterate 10 (refine tkA ?_;try simp only[Qc,Zhb,Zgo,Zg6,Gr,Gq,Gp])
     refine tk0 ?_;refine Za1 [(9,56),(11,58)] (λ_=>[]) [(9,56),(11,58)] (Zi3 9 99 11 gR i 0 ((Zc1 ws (Zcg rs i) (Zjt rr) n:Int):Rat)) 4 Gi (λ_ _ _ _ _ hb h=>Zni hb h) (λwx h=>u.out _ (Gs y h)) ?hop ?hfin
     case hop =>
      intro p hp;simp only[Qs,Qo,or_false]at hp;simp only[Qi,Qj,Zam,Qc,Zhb,Zgo,Zg6];rcases hp with rfl|rfl;exact CH;intro ν wx hb hP;have O:=T.trans ((Gs y hb).mono f);have V:=e4.out wx O;have d3:=f0.out wx O;have c7:=cR.out wx O;have f4:=cT.out wx O;have f6:=e6.out wx O;have h3:=hP (9,56) Gh Gi;simp only[Zi3]at h3;obtain⟨g3,hν3,c9⟩:=h3;rw[hν3];refine Zm (i:=11) rfl (λK hK=>?_);go_simp;refine(Zwy 92 93 #[.pointer (some ⟨gR,0,none⟩),.pointer (some ⟨g3,0,none⟩)] #[.pointer (some ⟨gT,0,none⟩)] C n e0 ws (Zcg rs i) (Zjt rr) wx d3 hn9 (λj _=>V.i64 _ _) (λj _=>Zkp hr.out.2.2.2.1 j) (λx W=>Zlg _ _ _ W) (λx W=>Zvs _ _ W) (λW j I hj=>Zjs _ n c m rs gR g3 i j W (V.below I) (Za I c7) (Za I (c9.cell 0)) hj b4 a3.out hm9 hn9) (λW j I hj=>side_ok B n d rr gT j W (f6.below I) (Za I f4) hj hn9)).mono ?_;exact FA
     case hfin =>
      intro ν X00 hb00 hP;have h3:=hP (9,56) Gh;have h5:=hP (11,58) Gh;simp only[Zi3]at h3 h5;obtain⟨g3,h3,-⟩:=h3
      skip
      obtain⟨n6,A6,k6,c6,m6,B6,j6,d6,h5,c2⟩:=h5;simp only[Qi,Qj,Zam,Qc,Zhb,Zgo,Zg6];rw[h3,h5];clear h3 h5 hP ν;have a0:Below wr.heap.size wr X00:=Gs y hb00;obtain⟨Y1,a4⟩:=Gz (X00.alloc (.cells #[.bool n6,.slice A6 k6 c6,.bool m6,.slice B6 j6 d6] 41));obtain⟨ga,b0⟩:=Gz X00.heap.size;have b3:Below X00.heap.size X00 Y1:=by rw[<- a4];exact(Qa _ _).alloc (Qb _) _
      have c0:Blk Y1 ga 41 #[.bool n6,.slice A6 k6 c6,.bool m6,.slice B6 j6 d6]:=by rw[<- a4,<- b0];exact QN _ _ _
      have J:Below wr.heap.size wr Y1:=Gs a0 b3;refine wpAnyL_o 12 λK hK=>?_;go_simp;(try rw[a4]);(try rw[b0]);refine hK.out _ _ (λ_=>u.out _ J) ?_;clear hK K a4 b0
      try simp only[Qc,Zhb,Zgo,Zg6]
      have cO:=(hM.out).below J;have b7:=c2.below b3;have d8:base<=Y1.heap.size:=Qg f J.size;have a9:=cO.2.2.2.1 i r ee;refine wpAnyL_o 13 λK hK=>?_;rw[Gx Ge];refine Za4 _ (.tmp 52) (.tmp 59) 35 rfl base 41 iF Tryz.underlying35 hi e5 f9 f5 (r).val _ rfl a9 _ (some ⟨ga,0,none⟩) 1 1 [⟨n6,A6,k6,c6,m6,B6,j6,d6,((Zc1 ws (Zcg rs i) (Zjt rr) n:Int):Rat)⟩] rfl (Zb7 _ c0) rfl (by intro e he;rw[QS]at he;subst he;exact b7) c8.out d8 ?_;intro v2 Y2 aY aV b9 b8
      obtain⟨nA,nn,nc,rfl⟩:∃ A n c,v2=.slice A n c:=by
       exact Cp
      have ai:=a9.ownBlk
      have U:∀ (g o:Nat) (v:Value),(r).val.ownBlock≠some g->Y1.cell? ⟨g,o,none⟩=some v->Y2.cell? ⟨g,o,none⟩=some v:=λg o v hgg hv=>by
       rw[<- hv];exact Qx (aV.block g (Zo hv) (λe=>hgg e.symm))
      have a6:=Zb (cO.app gI (i:=i) (r':=⟨nA,nn,nc⟩) ee aV aY b9 b8);rw[Qi,Qj,show (FE.q ⟨n6,A6,k6,c6,m6,B6,j6,d6,((Zc1 ws (Zcg rs i) (Zjt rr) n:Int):Rat)⟩)=((Zc1 ws (Zcg rs i) (Zjt rr) n:Int):Rat) from rfl,Zo5 b4 (Zyo)]at a6
      have bU:r.val.ownBlock≠some base:=λe=>by
       exact Cw
      have a5:Y2.cell? ⟨base,i,none⟩=some (.slice r.A r.n r.c):=U _ _ _ bU (u.out _ J);have e2:Hid (Below base W0 (Y2.setCell ⟨base,i,none⟩ (RS.val ⟨nA,nn,nc⟩))):=Zb (((T.trans (J.mono f)).grown aV (Qg c1 (T.trans (J.mono f)).size) (λk hk=>(ai k hk).choose_spec.2.2)).setCell a6.out.2.1 _)
      have d7:Y2.frozen? ⟨base,i,none⟩=false:=by
       exact Ip
      refine hK.out _ _ (λ_=>a5) ?_;clear hK K
      try simp only[Qc,Zhb,Zgo,Zg6]
      refine Zgp 1 [14] rfl Gi a5 ?_
      (refine tkA ?_;try simp only[Qc,Zhb,Zgo,Zg6,Gr,Gq,Gp])
      refine tk0 ?_;have d0:=a5;have e1:Hid ((b6.set i ⟨nA,nn,nc⟩).length=m):=Zb (by rw[QX];exact b1.out);clear a5 aY ai a9 cO b7 c0 b3 J U bU;refine Zv (i:=15) rfl Gi Gi (λK hK=>?_);go_simp;refine hK.out _ _ ?_;clear hK K
      try simp only[Qc,Zhb,Zgo,Zg6]
      refine wpAnyL_fin ?_;clear d0 d7 hxs u y a0 hb00 c2 cr zr aV b9 b8;go_wp2_with fail;rw[Zt3 (by rw[Zk1];exact Qb _)]at a6
      go_roundg (m-(i+1))
      case measure=>omega
      case rel=>exact⟨i+1,_,by omega,by go_num,e1,a6.out,e2.out⟩
    | succ k2 =>
     obtain rfl:k2=m-(t+1):=Gk;have f7:t<m:=Gk;have t3:decide ((t:Int)<(m:Int))=true:=Gv Gk;go_wp2_with fail;obtain⟨X0,b2⟩:=Gz wr.drew;have y:Below wr.heap.size wr X0:=by rw[<- b2];exact Zf (Qa _ _) 1
     have u:Hid (∀ wx,Below wr.heap.size wr wx->wx.cell? ⟨base,i,none⟩=some (.slice r.A r.n r.c)):=Zb (λwx O=>Za O cr);refine wp_heldS [17] hmx u (by rw[b2];exact y) (λhxs=>?_);rw[b2];refine Zj9 11 [0,1,2,3,4,5,6,7,8,10,11] rfl Gi (u.out _ y) ?_
     iterate 11 (refine tkA ?_;try simp only[Qc,Zhb,Zgo,Zg6,Gr,Gq,Gp])
     refine tk0 ?_;refine Za1 [(9,38),(12,41),(13,42)] (λ_=>[]) [(9,38),(12,41),(13,42)] (Zi3 9 12 13 gR i t ((Zc1 ws (Zcg rs i) (Zcg rs t) n:Int):Rat)) 4 Gi (λ_ _ _ _ _ hb h=>Zni hb h) (λwx h=>u.out _ (Gs y h)) ?hop ?hfin
     case hop =>
      intro p hp;simp only[Qs,Qo,or_false]at hp;simp only[Qi,Qj,Zam,Qc,Zhb,Zgo,Zg6];rcases hp with rfl|rfl|rfl;exact CH
      ·intro ν wx hb hP
       refine Zm (i:=12) rfl (λK hK=>?_);go_simp;refine(Zk3 gR t wx).mono ?_;exact FT
      intro ν wx hb hP;have O:=T.trans ((Gs y hb).mono f);have V:=e4.out wx O;have d3:=f0.out wx O;have c7:=cR.out wx O;have f4:=cT.out wx O;have f6:=e6.out wx O;have h3:=hP (9,38) Gh Gi;simp only[Zi3]at h3;obtain⟨g3,hν3,c9⟩:=h3;rw[hν3];have h4:=hP (12,41) Gh Gi;simp only[Zi3]at h4;obtain⟨g4,hν4,h2⟩:=h4;rw[hν4];refine Zm (i:=13) rfl (λK hK=>?_);go_simp;refine(Zwy 92 92 #[.pointer (some ⟨gR,0,none⟩),.pointer (some ⟨g3,0,none⟩)] #[.pointer (some ⟨gR,0,none⟩),.pointer (some ⟨g4,0,none⟩)] C n e0 ws (Zcg rs i) (Zcg rs t) wx d3 hn9 (λj _=>V.i64 _ _) (λj _=>V.i64 _ _) (λx W=>Zlg _ _ _ W) (λx W=>Zlg _ _ _ W) (λW j I hj=>Zjs _ n c m rs gR g3 i j W (V.below I) (Za I c7) (Za I (c9.cell 0)) hj b4 a3.out hm9 hn9) (λW j I hj=>Zjs _ n c m rs gR g4 t j W (V.below I) (Za I c7) (Za I (h2.cell 0)) hj f7 a3.out hm9 hn9)).mono ?_;exact FA
     case hfin =>
      intro ν X00 hb00 hP;have h3:=hP (9,38) Gh;have h5:=hP (13,42) Gh;have h4:=hP (12,41) Gh;simp only[Zi3]at h3 h5 h4;obtain⟨g3,h3,-⟩:=h3;obtain⟨g4,h4,-⟩:=h4;obtain⟨n6,A6,k6,c6,m6,B6,j6,d6,h5,c2⟩:=h5;simp only[Qi,Qj,Zam,Qc,Zhb,Zgo,Zg6];rw[h3,h4,h5];clear h3 h4 h5 hP ν;have a0:Below wr.heap.size wr X00:=Gs y hb00;obtain⟨Y1,a4⟩:=Gz (X00.alloc (.cells #[.bool n6,.slice A6 k6 c6,.bool m6,.slice B6 j6 d6] 41));obtain⟨ga,b0⟩:=Gz X00.heap.size;have b3:Below X00.heap.size X00 Y1:=by rw[<- a4];exact(Qa _ _).alloc (Qb _) _
      have c0:Blk Y1 ga 41 #[.bool n6,.slice A6 k6 c6,.bool m6,.slice B6 j6 d6]:=by rw[<- a4,<- b0];exact QN _ _ _
      have J:Below wr.heap.size wr Y1:=Gs a0 b3;refine wpAnyL_o 14 λK hK=>?_;go_simp;(try rw[a4]);(try rw[b0]);refine hK.out _ _ (λ_=>u.out _ J) ?_;clear hK K a4 b0
      try simp only[Qc,Zhb,Zgo,Zg6]
      have cO:=(hM.out).below J;have b7:=c2.below b3;have d8:base<=Y1.heap.size:=Qg f J.size;have a9:=cO.2.2.2.1 i r ee;refine wpAnyL_o 15 λK hK=>?_;rw[Gx Ge];refine Za4 _ (.tmp 34) (.tmp 43) 35 rfl base 41 iF Tryz.underlying35 hi e5 f9 f5 (r).val _ rfl a9 _ (some ⟨ga,0,none⟩) 1 1 [⟨n6,A6,k6,c6,m6,B6,j6,d6,((Zc1 ws (Zcg rs i) (Zcg rs t) n:Int):Rat)⟩] rfl (Zb7 _ c0) rfl (by intro e he;rw[QS]at he;subst he;exact b7) c8.out d8 ?_;intro v2 Y2 aY aV b9 b8
      obtain⟨nA,nn,nc,rfl⟩:∃ A n c,v2=.slice A n c:=by
       exact Cp
      have ai:=a9.ownBlk
      have U:∀ (g o:Nat) (v:Value),(r).val.ownBlock≠some g->Y1.cell? ⟨g,o,none⟩=some v->Y2.cell? ⟨g,o,none⟩=some v:=λg o v hgg hv=>by
       rw[<- hv];exact Qx (aV.block g (Zo hv) (λe=>hgg e.symm))
      have a6:=Zb (cO.app gI (i:=i) (r':=⟨nA,nn,nc⟩) ee aV aY b9 b8);rw[Qi,Qj,show (FE.q ⟨n6,A6,k6,c6,m6,B6,j6,d6,((Zc1 ws (Zcg rs i) (Zcg rs t) n:Int):Rat)⟩)=((Zc1 ws (Zcg rs i) (Zcg rs t) n:Int):Rat) from rfl,Zo5 b4 (Z1o f7)]at a6
      have bU:r.val.ownBlock≠some base:=λe=>by
       exact Cw
      have a5:Y2.cell? ⟨base,i,none⟩=some (.slice r.A r.n r.c):=U _ _ _ bU (u.out _ J);have e2:Hid (Below base W0 (Y2.setCell ⟨base,i,none⟩ (RS.val ⟨nA,nn,nc⟩))):=Zb (((T.trans (J.mono f)).grown aV (Qg c1 (T.trans (J.mono f)).size) (λk hk=>(ai k hk).choose_spec.2.2)).setCell a6.out.2.1 _)
      have d7:Y2.frozen? ⟨base,i,none⟩=false:=by
       exact Ip
      refine hK.out _ _ (λ_=>a5) ?_;clear hK K
      try simp only[Qc,Zhb,Zgo,Zg6]
      refine Zgp 1 [16] rfl Gi a5 ?_
      (refine tkA ?_;try simp only[Qc,Zhb,Zgo,Zg6,Gr,Gq,Gp])
      refine tk0 ?_;have d0:=a5;have e1:Hid ((b6.set i ⟨nA,nn,nc⟩).length=m):=Zb (by rw[QX];exact b1.out);clear a5 aY ai a9 cO b7 c0 b3 J U bU;refine Zv (i:=17) rfl Gi Gi (λK hK=>?_);go_simp;refine hK.out _ _ ?_;clear hK K
      try simp only[Qc,Zhb,Zgo,Zg6]
      refine wpAnyL_fin ?_;clear d0 d7 hxs u y a0 hb00 c2 cr zr aV b9 b8;go_wp2_with fail
      go_roundg (m-(t+1))
      case measure=>omega
      case rel=>exact⟨t+1,_,by omega,by go_num,e1,a6.out,e2.out⟩
theorem Zi2{rs:List RI}{rr ws:List Int}(h:Zd4 rs rr ws=0):rs.length<=200/\(∀ r ∈ rs,r.n<=12)/\n0I rs≠0/\ws.length=rs.length/\rr.length=rs.length/\Zis 1 ws=false/\Zis (-1099511627776) rr=false/\∀ r ∈ rs,r.n=n0I rs/\Zis (-1099511627776) r.l=false:=by
 unfold Zd4 at h
 split at h
 cases h;rename_i h1
 split at h
 ·rename_i h2
  simp only[Zls,Bool.or_eq_true,decide_eq_true_eq,not_or,QG,not_exists,RI.long,not_and]at h1;simp only[sysB,QV,Bool.not_eq_true',decide_eq_false_iff_not,decide_eq_true_eq,List.all_eq_true,Zq5]at h2;obtain⟨a1,a2,a3,a4,a5,a6⟩:=h2;exact⟨by omega,λr hr=>by have:=h1.2 r hr;omega,a1,a2,a3,a4,a5,a6⟩
 cases h
theorem Zv3{P:Program}(t e:TypeId){i:TypeInfo}(ht:P.underlying t=some (.slice e))(hi:P.info? e=some i)(hz:i.zero=some (.int .i64 0))(hs:i.size=1)(hb:i.bytes=8)
    (x:Int) (n:Nat) (hx:x=n) (hn:n<=1000000000000) (W:World) :
    (Instr.makeSlice t (.int .i64 x) (.int .i64 x)).run P W=.ok (.slice (some ⟨W.heap.size,0,none⟩) n n) (W.alloc (.cells (madeCells #[.int .i64 0] n) e)):=by
 subst hx;have hr:=run_make (P:=P) W t e i _ ht hi hz .i64 .i64 n n Gk Gk (by rw[hb];omega) Gk;simp only[QD]at hr;rw[hr,hs,Nat.mul_one];rfl
theorem LimI.zeros{w:World}{g:Nat}{t:TypeId}{n:Nat}(h:Blk w g t (madeCells #[.int .i64 0] n))(hn:n<=maxLen):LimI w (some ⟨g,0,none⟩) n n (Qd n 0):=by
 refine⟨by simp,Qb _,hn,λx hx=>?_,λ_=>⟨g,0,rfl,λk hk=>?_⟩⟩;rw[List.eq_of_mem_replicate hx];unfold I64;decide;rw[Nat.zero_add,h.cell,Qk,Gx hk];unfold madeCells;simp[hk,Nat.mod_one]
theorem Zwa:(Tryz.prog.info? 2).map (λi=>(i.zero,i.size,i.bytes))=some (some (.int .i64 0),1,8):=by kernel_rfl
def RS.cut(r:RS):RS:=⟨r.A,r.n-1,r.c⟩
def Zir(rs:List RS)(i:Nat):List RS:=(rs.take i).map RS.cut++rs.drop i
theorem Zxj(rs:List RS):Zir rs 0=rs:=by simp[Zir]
theorem Z1g(rs:List RS):Zir rs rs.length=rs.map RS.cut:=by simp[Zir]
theorem Zrn(rs:List RS)(i:Nat):(Zir rs i).length=rs.length:=by simp[Zir];omega
theorem Z1a{rs:List RS}{i:Nat}{r:RS}(h:rs[i]?=some r)(zs:List RS):(Zir rs i++zs)[i]?=some r:=by
 have hi:=(List.getElem?_eq_some_iff.1 h).1;rw[Qp (by rw[Zrn];exact hi)];unfold Zir;rw[QC Gg];simp only[Qv,QH,QY (Nat.le_of_lt hi),Nat.sub_self,List.getElem?_drop,QR];exact h
theorem Zzg{rs:List RS}{i:Nat}{r:RS}(h:rs[i]?=some r)(zs:List RS):(Zir rs i++zs).set i r.cut=Zir rs (i+1)++zs:=by
 have hi:=(List.getElem?_eq_some_iff.1 h).1;have hr:rs[i]=r:=(List.getElem?_eq_some_iff.1 h).2;rw[List.set_append_left _ _ (by rw[Zrn];exact hi)];congr 1;unfold Zir;rw[List.set_append_right _ _ Gg];simp only[Qv,QH,QY (Nat.le_of_lt hi),Nat.sub_self];rw[List.drop_eq_getElem_cons hi,List.set_cons_zero,QU,Qf hi,hr];simp
theorem FL.keptS{w w':World}{A:Option Addr}{n c:Nat}{qs:List Rat}{go:Nat}{tS:TypeId}{rs:List RS}(h:FL w A n c qs)(hk:Kept (λg=>g=go) w w')(hb:Blk w go tS (Z6 rs)):FL w' A n c qs:=by
 have hG:∀ k,(λg=>g=go) k->∃ t cs,Blk w k t cs/\NoLimb cs:=λk e=>by
  cases e;exact⟨_,_,hb,Za9 rs⟩
 obtain⟨es,h1,h2,h3,h4,h5,h6⟩:=h;refine⟨es,h1,h2,h3,λe he=>⟨hk.wd (h4 e he).1 hG,hk.wd (h4 e he).2 hG⟩,h5,λhn=>?_⟩;obtain⟨g,o,e1,hc⟩:=h6 hn;refine⟨g,o,e1,λk e he=>?_⟩;obtain⟨a,b,c',d⟩:=hc k e he
 have u:g≠go:=λe'=>by
  subst e';rw[hb.cell]at a;unfold Z6 at a;simp only[List.getElem?_toArray,Zco,Qe,QL]at a;obtain⟨r,-,hr⟩:=a;cases hr
 have f:∀ (j:Nat) (v:Value),w.cell? ⟨g,j,none⟩=some v->w'.cell? ⟨g,j,none⟩=some v:=λj v hv=>by
  rw[<- hv];exact Qx (hk.block g (Zo hv) u)
 exact⟨f _ _ a,f _ _ b,f _ _ c',f _ _ d⟩
theorem Zr8(A C:Option Addr)(n c k e0:Nat)(rs:List RI)(ws:List Int)(w:World)(h:MIL w A n c rs)(hw:LimI w C k e0 ws)(E:Int)(hE:Zd4 rs (List.replicate (min n 200) 0) ws=E)(h0:E≠0) :
    Calls Tryz.prog 15 #[.slice A n c,.slice C k e0] w λe w'=>e=.returned (.tuple #[.slice none 0 0,.int .i64 E])/\Below w.heap.size w w':=by
 obtain⟨iI,ji,y,I,u⟩:=info_parts Zwa;have hn:=Qg h.2.1 h.2.2.1;unfold maxLen at hn;have o:min (n:Int) 200=((min n 200:Nat):Int):=Gk;have hk:min n 200<=200:=Gk;obtain⟨q,hq⟩:=Gz (min n 200);rw[hq]at o hk hE;have t1:decide (E≠0)=true:=Gv h0;have U:(E != 0)=true:=by simpa using h0
 have T:(E == 0)=false:=by simpa using h0
 have V:=Zv3 (P:=Tryz.prog) 23 2 Tryz.underlying23 ji y I u (q:Int) q rfl Gk w;obtain⟨W0,J,f,q0,s0⟩:=Zan w 2 (madeCells #[.int .i64 0] q);have hC:=Zb (Zlq A (some ⟨w.heap.size,0,none⟩) C n c q q k e0 rs (Qd q 0) ws W0 (h.below f) (LimI.zeros q0 (by unfold maxLen;omega)) (hw.below f) E hE);clear q0 h hw hE hq;replace h0:=Zb h0;go_in;go_wp2_with fail;(try rw[J]);refine hC.out.mono ?_;rintro e w1 ⟨rfl,O⟩;go_wp2_with fail;go_returns;exact⟨rfl,Gs f O⟩
def Zc7(rs:List RI)(ws:List Int)(n m:Nat):List (List Rat):=(Qq m).map λi=>(Qq m).map λk=>((Zc1 ws (Zcg rs i) (Zcg rs k) n:Int):Rat)
theorem Zx8(rs:List RI)(rr ws:List Int)(n m:Nat):(Zpc rs rr ws n m).map (λq=>q.take m)=Zc7 rs ws n m:=by
 unfold Zpc Zc7;rw[List.map_map];refine Qz λi _=>?_;show (Zf3 rs rr ws n m i).take m=_;unfold Zf3;rw[List.take_append_of_le_length Gh,QK Gh]
theorem Zvj(A C:Option Addr)(n c e0 m:Nat)(rs:List RI)(ws:List Int)(w:World)(h:MIL w A n c rs)(hw:LimI w C n e0 ws)(hE:Zd4 rs (List.replicate n 0) ws=0)(hm:n0I rs=m) :
    Calls Tryz.prog 15 #[.slice A n c,.slice C n e0] w λe w'=>∃ go,e=.returned (.tuple #[.slice (some ⟨go,0,none⟩) m m,.int .i64 0])/\Below w.heap.size w w'/\MFL w' (some ⟨go,0,none⟩) m m (Zc7 rs ws n m):=by
 obtain⟨iI,ji,c1,c3,b4⟩:=info_parts Zwa;obtain⟨f1,f2,f3,f4,f5,f6,f7,f8⟩:=Zi2 hE;have hl:=h.1;rw[hl]at f1;rw[hm]at f3
 have b3:0<n:=by
  rcases Nat.eq_zero_or_pos n with h0|h0
  ·exfalso
   have:rs=[]:=Qy Gk;subst this;exact f3 (by rw[<- hm];rfl)
  exact h0
 have y:∀ r ∈ rs,r.n=m:=λr hr=>by rw[(f8 r hr).1,hm]
 have c4:m<=12:=by
  obtain⟨_,_,r0,_,b7,_⟩:=h.at_ (i:=0) b3;have h1:=Qh b7;rw[<- y r0 h1];exact f2 r0 h1
 have b9:0<m:=Gk;have c5:min (n:Int) 200=(n:Int):=Gk;have c2:=Zv3 (P:=Tryz.prog) 23 2 Tryz.underlying23 ji c1 c3 b4 (n:Int) n rfl Gk w;obtain⟨W0,b5,o,q0,s0⟩:=Zan w 2 (madeCells #[.int .i64 0] n);have hZ:=Zb (LimI.zeros q0 (by unfold maxLen;omega));have hM:=Zb (h.below o);have a0:=Zb (hw.below o);clear q0 h hw f2 f3 f4 f5 f6 f7 f8;replace hE:=Zb hE;replace hm:=Zb hm;replace hl:=Zb hl;replace y:=Zb y;go_in;go_wp2_with fail;(try rw[b5]);refine(Zlq A (some ⟨w.heap.size,0,none⟩) C n c n n n e0 rs (Qd n 0) ws W0 hM.out hZ.out a0.out 0 hE.out).mono ?_;rintro e w1 ⟨rfl,u⟩;go_wp2_with fail;refine(Ztv A (some ⟨w.heap.size,0,none⟩) C n c n e0 m rs (Qd n 0) ws w1 (hM.out.below u) (hZ.out.below u) (a0.out.below u) b3 Gk b9 Gk y.out).mono ?_;rintro e w2 ⟨go,f,rfl,b2,b1,base,a8,b6⟩;have Y:=o.trans ((Gs u b2).mono o.size);obtain⟨⟨zs,U⟩,a9,a7,O,-⟩:=b6
 have V:∀ (i:Nat) (r:RS),f[i]?=some r->r.n=m+1/\m+1<=r.c/\r.c<=maxLen/\FL w2 r.A r.n r.c ((Zpc rs (Qd n 0) ws n m)[i]?.getD []):=λi r hr=>by
  have hi:i<m:=by rw[<- b1];exact(List.getElem?_eq_some_iff.1 hr).1
  obtain⟨a1,a2⟩:=(O i r hr).rsn
  have a3:((Zpc rs (Qd n 0) ws n m)[i]?.getD []).length=m+1:=by
   unfold Zpc;rw[Qe,Ql hi,Qw,QE,Zk1]
  rw[a3]at a1;have a4:=a2.cap;rw[a1]at a4;exact⟨a1,a4.1,a4.2,a2⟩
 have a6:w.heap.size<=go:=Qg (Qg (Gs o u).size a8) a9;replace V:=Zb V;replace O:=Zb O;replace U:=Zb U;replace Y:=Zb Y;clear u b2 o hM a0 hZ c2 a8 a9;go_wp2_with fail
 go_loopg [28] m (λk iv wr=>∃ i:Nat,i+k=m/\iv=.int .i64 i/\Blk wr go 35 (Z6 (Zir f i++zs))/\Kept (λg=>g=go) w2 wr)
 case atStart=>exact⟨0,by omega,rfl,by rw[Zxj];exact U.out,Kept.refl _ _⟩
 case round =>
  obtain⟨i,c7,rfl,I,hK⟩:=hrel;cases gk with
  | zero =>
   obtain rfl:m=i:=Gk;have t2:decide ((m:Int)<(m:Int))=false:=Gh;have b8:=Y.out.trans (hK.to_below (λk hk=>by rw[hk];exact a6) Y.out.size)
   have hfin:MFL wr (some ⟨go,0,none⟩) m m (Zc7 rs ws n m):=by
    refine⟨by unfold Zc7;simp,Qb _,by unfold maxLen;omega,λ_=>⟨go,0,rfl,λj q hq=>?_⟩⟩;rw[<- Zx8 rs (Qd n 0) ws n m,Qe,QL]at hq;obtain⟨q0,b0,rfl⟩:=hq;have hj:j<f.length:=by rw[a7];exact(List.getElem?_eq_some_iff.1 b0).1
    have hr:=Qf hj;obtain⟨a1,a2,a3,a4⟩:=V.out j _ hr;rw[b0,QE]at a4;have a5:=(a4.keptS hK U.out).take (k:=m) Gk
    have J:(Zir f m++zs)[j]?=some (f[j]).cut:=by
     rw[<- b1,Z1g,Qp (by simpa using hj),Qe,hr];rfl
    refine⟨_,_,_,by rw[Nat.zero_add,I.cell];exact Zb4 J,?_⟩;simp only[RS.cut,a1];exact a5
   replace hfin:=Zb hfin;clear I hK;go_wp2_with fail;go_returns;exact⟨go,rfl,b8,hfin.out⟩
  | succ k' =>
   obtain rfl:k'=m-(i+1):=Gk;have c6:i<m:=Gk;have t2:decide ((i:Int)<(m:Int))=true:=Gv Gk;have bi:(i:Int)<(m:Int):=Gk;obtain⟨r,hr⟩:=Zb0 (L:=f) (i:=i) Gk;obtain⟨a1,a2,a3,-⟩:=V.out i r hr;have cr:=I.cell i;rw[Zb4 (Z1a hr zs),a1]at cr;have zr:=I.frozen i;unfold maxLen at a3
   have T:Blk (wr.setCell ⟨go,i,none⟩ (.slice r.A m r.c)) go 35 (Z6 (Zir f (i+1)++zs)):=by
    have:=I.set_ i (.slice r.A m r.c);have J:r.cut=⟨r.A,m,r.c⟩:=by simp only[RS.cut,a1];rfl
    have e2:(Zir f i++zs).set i ⟨r.A,m,r.c⟩=Zir f (i+1)++zs:=by rw[<- J,Zzg hr zs]
    rw[show Value.slice r.A m r.c=Value.slice (RS.mk r.A m r.c).A (RS.mk r.A m r.c).n (RS.mk r.A m r.c).c from rfl,Zds ⟨r.A,m,r.c⟩,e2]at this;exact this
   have c0:Hid (Kept (λg=>g=go) w2 (wr.setCell ⟨go,i,none⟩ (.slice r.A m r.c))):=Zb (hK.set_ (p:=⟨go,i,none⟩) (.inl rfl) _);replace T:=Zb T;have s1:((m+1:Nat):Int)-1=(m:Int):=Gk;have s2:(m:Int)<=(r.c:Int):=Gk;have s3:m<=r.c:=Gk;clear I hK a1;replace hr:=Zb hr;go_wp2_with fail
   go_roundg (m-(i+1))
   case measure=>omega
   case rel=>exact⟨i+1,by omega,by go_num,T.out,c0.out⟩
def Zrb(rs:List RI)(ws:List Int)(n m i:Nat):List Rat:=(Qq m).map λk=>((Zc1 ws (Zcg rs i) (Zcg rs k) n:Int):Rat)
theorem Zt4(rs:List RI)(ws:List Int)(n m i:Nat):(Zrb rs ws n m i).length=m:=by unfold Zrb;simp
theorem Zj3(rs:List RI)(ws:List Int)(n m:Nat):(Zc7 rs ws n m).length=m:=by unfold Zc7;simp
