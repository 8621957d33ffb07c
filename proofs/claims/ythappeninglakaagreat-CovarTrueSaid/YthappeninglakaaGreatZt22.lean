/- Package covar: whether a whole number is at most the mean -/
import Derived.Deep.LoopGhost
import Derived.Test.YthappeninglakaaGreatZt21
set_option maxRecDepth 100000
set_option maxHeartbeats 8000000
set_option linter.unusedSimpArgs false
set_option linter.unusedVariables false
namespace Go.Proofs.YthappeninglakaaGreat
open Go.RowKit
open Int renaming natAbs_natCast→Qa,mul_le_mul→Qd,le_ediv_iff_mul_le→Qg,natAbs_mul→Ql,fdiv_eq_ediv_of_nonneg→Qn,fdiv→Qp,mul_nonneg→Qs
open Rat renaming intCast_mul→Qb,intCast_le_intCast→Qh,intCast_natCast→Qk,mul_pos→Qm,mul_nonneg→Qr
open Act renaming put→Qc
open List renaming map_cons→Qe,map_nil→Qf,not_mem_nil→Qo,mem_cons→Qt,mem_map_of_mem→Qu,length_cons→Qx,length_nil→Qy
open Nat renaming mul_lt_mul''→Qi,le_refl→Qq,lt_of_le_of_lt→Qv,le_succ→Qw
open Below renaming refl→Qj
attribute [local go_sem] Zg
def Zgy(sg:Int)(m s:Rat)(z:Int):Bool:=if 0<sg then decide ((z:Rat)-m<=0) || decide (((z:Rat)-m)*((z:Rat)-m)<=s)else decide ((z:Rat)-m<=0) && decide (s<=((z:Rat)-m)*((z:Rat)-m))
theorem Zmr{q:Rat}:Zcq q.num 0<=0 ↔ q<=0:=by
 have h:(0:Rat)<q ↔ 0<q.num:=⟨λh=>by
  have h1:q.num≠0:=λe=>by rw[Rat.num_eq_zero.1 e]at h;exact absurd h Gj
  have h2:=Rat.num_nonneg.2 (Rat.le_of_lt h);omega,λh=>by
  have h1:0<=q:=Rat.num_nonneg.1 Gk;refine Rat.lt_of_le_of_ne h1 (λe=>?_);rw[<- e]at h;exact absurd h Gj⟩
 unfold Zcq;rw[<- Rat.not_lt,h]
 split
 ·constructor <;> intro _ <;> omega
 split
 ·constructor <;> intro h1 <;> omega
 constructor <;> intro _ <;> omega
theorem Zvm{q:Rat}:0<=Zcq q.num 0 ↔ 0<=q:=by
 rw[<- Rat.num_nonneg];unfold Zcq
 split
 ·constructor <;> intro h1 <;> omega
 split
 ·constructor <;> intro h1 <;> omega
 constructor <;> intro h1 <;> omega
theorem Fk{G:Prop}(h:G:=by
 constructor
 ·intro h
  have h2:=Rat.add_le_add_right (c:=b) |>.2 h;rw[Rat.zero_add]at h2;have e:a-b+b=a:=by grind
  rw[e]at h2;exact h2
 intro h;have h2:=Rat.add_le_add_right (c:=-b) |>.2 h;have e:b+-b=0:=by grind
 have e2:a+-b=a-b:=by grind
 rw[e,e2]at h2;exact h2):G:=h
theorem Zrg{a b:Rat}:a-b<=0 ↔ a<=b:=by
 exact Fk
theorem Zru{a b:Rat}:0<=a-b ↔ b<=a:=by
 exact Fk
theorem Fx{G:Prop}(h:G:=by
 clear aF;go_wp2_with fail;go_ret;exact⟨by rw[dp.out];rfl,gQ.out⟩):G:=h
theorem Ea{G:Prop}(h:G:=by
 go_simp;exact hK.out _ _ ⟨_,rfl,(by simp only[Zaz];exact⟨_,rfl,hb.size,Blk.new _ _ _⟩),(Below.refl _ _).alloc (Nat.le_refl _) _,trivial⟩):G:=h
theorem Ei{G:Prop}(h:G:=by
 exact hK.out _ _ ⟨_,rfl,(by simp only[Zaz];exact⟨_,_,_,_,_,_,_,_,rfl,ay⟩),ar,trivial⟩):G:=h
theorem CJ{G:Prop}(h:G:=by
 replace cY:=Za cY;replace h2:=Za h2;have dp:Hid (Zgy sg mq sq z=true):=Za (by rw[aF.out,bC.out,cY.out];rfl);exact Fx):G:=h
theorem CL{G:Prop}(h:G:=by
 replace cY:=Za cY;replace h2:=Za h2;have dp:Hid (Zgy sg mq sq z=false):=Za (by rw[aF.out,bC.out,cY.out];rfl);exact Fx):G:=h
theorem Zte(wn:Bool)(wA:Option Addr)(wk wc:Nat)(z:Int)(gm gs gp:Nat)(mn:Bool)(mA:Option Addr)(mk mc:Nat)(mm:Bool)(mB:Option Addr)(mj md:Nat)(sn:Bool)(sA:Option Addr)(sk sc:Nat)(sm:Bool)(sB:Option Addr)(sj sd:Nat)(sg:Int)(mq sq:Rat)(w:World)(hz:Wd w wn wA wk wc z)(hm:Blk w gm 73 #[.bool mn,.slice mA mk mc,.bool mm,.slice mB mj md])(a9:Fr w mn mA mk mc mm mB mj md mq)(hs:Blk w gs 73 #[.bool sn,.slice sA sk sc,.bool sm,.slice sB sj sd])(a6:Fr w sn sA sk sc sm sB sj sd sq)(hp:Blk w gp 3 #[.int .i64 sg])
    (k1:Sm (z:Rat)) (k2:Sm mq) (k3:Sm ((z:Rat)-mq)) (k4:Sm (((z:Rat)-mq)*((z:Rat)-mq))) (k5:Sm sq) :
    Calls Tryz.prog 117 #[.agg #[.bool wn,.slice wA wk wc],.pointer (some ⟨gm,0,none⟩),.pointer (some ⟨gs,0,none⟩),.pointer (some ⟨gp,0,none⟩)] w λe w'=>e=.returned (.bool (Zgy sg mq sq z))/\Below w.heap.size w w':=by
 obtain⟨iN,hi,n3,o7,o2⟩:=info_parts Zpq;have hmx:=Gt;obtain⟨d,hd⟩:=Gz ((z:Rat)-mq);have h9:Hid (Zgy sg mq sq z=if 0<sg then decide (d<=0) || decide (d*d<=sq)else decide (d<=0) && decide (sq<=d*d)):=Za (by rw[<- hd];rfl);rw[hd]at k3 k4;replace hd:=Za hd;replace k1:=Za k1;replace k2:=Za k2;replace k3:=Za k3;replace k4:=Za k4;replace k5:=Za k5;obtain⟨V0,j3,q4,b2⟩:=Zaw (w:=w) 39 #[.bool wn,.slice wA wk wc];obtain⟨g4,g9⟩:=Gz w.heap.size;rw[g9]at q4;replace hz:=Za (hz.below b2);replace hm:=Za (Zc b2 hm);replace a9:=Za (a9.below b2);replace hs:=Za (Zc b2 hs);replace a6:=Za (a6.below b2);replace hp:=Za (Zc b2 hp);replace b2:=Za b2;replace q4:=Za q4;go_in;go_wp2_with fail;(try rw[j3]);(try rw[g9]);clear j3;replace g9:=Za g9;have h0:V0.cell? ⟨g4,0,none⟩=some (.bool wn):=q4.out.cell 0;have g2:V0.cell? ⟨g4,1,none⟩=some (.slice wA wk wc):=q4.out.cell 1;have b3:Hid (∀ wx,Below V0.heap.size V0 wx->(wx.cell? ⟨g4,0,none⟩=some (.bool wn))/\(wx.cell? ⟨g4,1,none⟩=some (.slice wA wk wc))):=Za (λwx o=>⟨Zb o h0,Zb o g2⟩);have a0:Below V0.heap.size V0 V0.drew:=Zf (Qj _ _) 1;refine wp_heldS [] hmx b3 a0 (λhxs1=>?_);refine Zj5 1 [0] rfl Gi (b3.out _ a0) ?_
 (refine tkA ?_;try simp only[Qc,Zg7,Zgl,Zg1,Gr,Gq,Gp])
 refine tk0 ?_;refine Za5 [(1,12),(2,13),(3,10),(4,14),(6,6)] (λi=>match i with|3=>[5]|_=>[]) [(1,12),(2,13),(3,10),(5,15),(4,14),(6,6)] (Zaz [(1,nmT 1),(2,frP (z:Rat)),(3,frP (z:Rat)),(5,isV (.int .i64 0)),(4,frV (z:Rat)),(6,newV V0.heap.size 41 #[.bool false,.slice none 0 0,.bool false,.slice none 0 0])]) 2 Gi (λp _=>Zfh (Zac Zx8 (Zac Zov (Zac Zov (Zac Zxt (Zac Zc6 (Zac Ze8 Zgf)))))) p.1) (λwx h=>b3.out _ (Gs a0 h)) ?hop1 ?hfin1
 case hop1 =>
  intro p hp;simp only[Qt,Qo,or_false]at hp;simp only[Qe,Qf,Zal,Qc,Zg7,Zgl,Zg1];rcases hp with rfl|rfl|rfl|rfl|rfl
  ·intro ν wx hb hP
   have o:=Gs a0 hb;refine Zm (i:=1) rfl (λK hK=>?_);go_simp;refine(Zb2 1 wx Gj Gj).mono ?_;rintro e w5 ⟨ar,n5,A5,n1,c5,rfl,ay⟩;obtain rfl:n5=false:=by rw[ay.1];decide
   exact hK.out _ _ ⟨_,rfl,(by simp only[Zaz];exact⟨_,_,_,rfl,ay⟩),ar,trivial⟩
  ·intro ν wx hb hP
   have o:=Gs a0 hb;have h1:=hP (1,12) Gh Gi;simp only[Zaz]at h1;obtain⟨l9,k7,m1,hν1,l2⟩:=h1;rw[hν1];refine Zm (i:=2) rfl (λK hK=>?_);go_simp;refine(Zgg wn wA l9 wk wc k7 m1 z 1 wx (hz.out.below o) l2 Gj).mono ?_;rintro e w5 ⟨ar,fn,fA,fk,fc,fm,fB,fj,fd,rfl,ay⟩;rw[Zti]at ay;exact Ei
  ·intro ν wx hb hP
   have o:=Gs a0 hb;have h2:=hP (2,13) Gh Gi;simp only[Zaz]at h2;obtain⟨j0,j6,j2,j8,k0,j5,i7,j1,hν2,i4⟩:=h2;rw[hν2];refine Zm (i:=3) rfl (λK hK=>?_);go_simp;refine hK.out _ _ ⟨_,rfl,(by simp only[Zaz];exact⟨_,_,_,_,_,_,_,_,rfl,i4⟩),Qj _ _,?_⟩;exact⟨_,.int .i64 0,rfl,Or.inl ⟨by kernel_rfl,λW2 _=>by go_simp⟩,by simp[Zaz,isV],trivial⟩
  ·intro ν wx hb hP
   have o:=Gs a0 hb;have h3:=hP (3,10) Gh Gi;simp only[Zaz]at h3;obtain⟨n8,o0,n2,m7,n7,o9,m9,o3,hν3,m3⟩:=h3;rw[hν3];refine Zm (i:=4) rfl (λK hK=>?_);go_simp;exact hK.out _ _ ⟨_,rfl,(by simp only[Zaz];exact⟨_,_,_,_,_,_,_,_,rfl,m3⟩),Qj _ _,trivial⟩
  intro ν wx hb hP;have o:=Gs a0 hb;refine Zm (i:=6) rfl (λK hK=>?_);exact Ea
 case hfin1 =>
  intro ν wx hb hP;have h1:=hP (1,12) Gh;simp only[Zaz]at h1;obtain⟨m6,n9,n0,hν1,-⟩:=h1;have h2:=hP (2,13) Gh;simp only[Zaz]at h2;obtain⟨l0,m0,l8,l6,l7,l3,m4,m5,hν2,-⟩:=h2;have h3:=hP (3,10) Gh;simp only[Zaz]at h3;obtain⟨m8,n6,o6,o5,o4,n4,o1,p0,hν3,-⟩:=h3;have h5:=hP (5,15) Gh;simp only[Zaz]at h5;have hν5:ν 15=_:=h5;clear h5;have h4:=hP (4,14) Gh;simp only[Zaz]at h4;obtain⟨h7,h8,f6,g8,f4,f8,g6,g7,hν4,k6⟩:=h4;have h6:=hP (6,6) Gh;simp only[Zaz]at h6;obtain⟨b6,hν6,i9,i3⟩:=h6;simp only[Qe,Qf,Zal,Qc,Zg7,Zgl,Zg1];rw[hν1,hν2,hν3,hν5,hν4,hν6];clear hν1 hν2 hν3 hν5 hν4 hν6 hP ν;have o:=Gs a0 hb;have a5:=i3.four;have d3:V0.heap.size<=b6:=i9;refine(Z7 h7 h8 f6 g8 f4 f8 g6 g7 o d3 i3).elim (λZ1 hq=>?_);have c0:=a5.1;have i6:=a5.2.1;have i1:=a5.2.2.1;have c3:=a5.2.2.2.1;have f0:=a5.2.2.2.2.1;have f1:=a5.2.2.2.2.2.1;have f2:=a5.2.2.2.2.2.2.1;have f3:=a5.2.2.2.2.2.2.2;have hZ:=hq.1;refine wpAnyL_o 7 λK hK=>?_;go_simp;(try rw[hZ]);refine hK.out _ _ (λ_=>b3.out _ hq.2.1) ?_;clear hK K
  try simp only[Qc,Zg7,Zgl,Zg1,Gr,Gq,Gp]
  refine Zgm 1 [8] rfl Gi (b3.out _ hq.2.1) ?_
  (refine tkA ?_;try simp only[Qc,Zg7,Zgl,Zg1,Gr,Gq,Gp])
  refine tk0 ?_;refine wpAnyL_fin ?_;have a7:=hq.2.1;have b5:=hq.2.2.1;have d9:=Fr.keep k6 hq.2.2.2.1;have m2:=Za d3;clear hq hZ c0 i6 i1 c3 f0 f1 f2 f3 a5 i3 i9 d3 o hb a0 b3 hxs1 k6;replace hz:=Za (hz.out.below a7);replace hm:=Gm a7 hm;replace a9:=Za (a9.out.below a7);replace hs:=Gm a7 hs;replace a6:=Za (a6.out.below a7);replace hp:=Gm a7 hp;replace q4:=Gm a7 q4;have i2:=Gn b2 a7;clear b2;replace h0:=Zb a7 h0;replace g2:=Zb a7 g2;clear a7 h0 g2;replace b5:=Za b5;replace d9:=Za d9;go_wp2_with fail;have g1:Z1.cell? ⟨b6,0,none⟩=some (.bool h7):=b5.out.cell 0;have g0:Z1.cell? ⟨b6,1,none⟩=some (.slice h8 f6 g8):=b5.out.cell 1;have g5:Z1.cell? ⟨b6,2,none⟩=some (.bool f4):=b5.out.cell 2;have f9:Z1.cell? ⟨b6,3,none⟩=some (.slice f8 g6 g7):=b5.out.cell 3;have f5:Z1.cell? ⟨gm,0,none⟩=some (.bool mn):=hm.out.cell 0;have d7:Z1.cell? ⟨gm,1,none⟩=some (.slice mA mk mc):=hm.out.cell 1;have d5:Z1.cell? ⟨gm,2,none⟩=some (.bool mm):=hm.out.cell 2;have d8:Z1.cell? ⟨gm,3,none⟩=some (.slice mB mj md):=hm.out.cell 3
  have b9:Hid (∀ wx,Below Z1.heap.size Z1 wx->(wx.cell? ⟨b6,0,none⟩=some (.bool h7))/\(wx.cell? ⟨b6,1,none⟩=some (.slice h8 f6 g8))/\(wx.cell? ⟨b6,2,none⟩=some (.bool f4))/\(wx.cell? ⟨b6,3,none⟩=some (.slice f8 g6 g7))/\(wx.cell? ⟨gm,0,none⟩=some (.bool mn))/\(wx.cell? ⟨gm,1,none⟩=some (.slice mA mk mc))/\(wx.cell? ⟨gm,2,none⟩=some (.bool mm))/\(wx.cell? ⟨gm,3,none⟩=some (.slice mB mj md))):=Za (λwx o=>⟨Zb o g1,Zb o g0,Zb o g5,Zb o f9,Zb o f5,Zb o d7,Zb o d5,Zb o d8⟩);have a4:Below Z1.heap.size Z1 Z1.drew:=Zf (Qj _ _) 1;refine wp_heldS [] hmx b9 a4 (λhxs2=>?_);refine Zj5 3 [0,1,3] rfl Gi (b9.out _ a4) ?_
  iterate 3 (refine tkA ?_;try simp only[Qc,Zg7,Zgl,Zg1,Gr,Gq,Gp])
  refine tk0 ?_;refine Za5 [(2,18),(4,20),(5,8)] (λ_=>[]) [(2,18),(4,20),(5,8)] (Zaz [(2,frV (z:Rat)),(4,frV d),(5,newV Z1.heap.size 73 #[.bool false,.slice none 0 0,.bool false,.slice none 0 0])]) 1 Gi (λp _=>Zfh (Zac Zc6 (Zac Zc6 (Zac Ze8 Zgf))) p.1) (λwx h=>b9.out _ (Gs a4 h)) ?hop2 ?hfin2
  case hop2 =>
   intro p hp;simp only[Qt,Qo,or_false]at hp;simp only[Qe,Qf,Zal,Qc,Zg7,Zgl,Zg1];rcases hp with rfl|rfl|rfl
   ·intro ν wx hb hP
    have o:=Gs a4 hb;refine Zm (i:=2) rfl (λK hK=>?_);go_simp;refine(Zf4 h7 f4 h8 f8 f6 g8 g6 g7 _ wx (d9.out.below o)).mono ?_;rintro e w5 ⟨ar,fn,fA,fk,fc,fm,fB,fj,fd,rfl,ay⟩;exact Ei
   ·intro ν wx hb hP
    have o:=Gs a4 hb;have h2:=hP (2,18) Gh Gi;simp only[Zaz]at h2;obtain⟨j0,j6,j2,j8,k0,j5,i7,j1,hν2,i4⟩:=h2;rw[hν2];refine Zm (i:=4) rfl (λK hK=>?_);go_simp;refine(Zez j0 k0 mn mm j6 j5 mA mB j2 j8 i7 j1 mk mc mj md _ _ wx i4 (a9.out.below o) k1.out k2.out).mono ?_;rintro e w5 ⟨ar,fn,fA,fk,fc,fm,fB,fj,fd,rfl,ay⟩;rw[hd.out]at ay;exact Ei
   intro ν wx hb hP;have o:=Gs a4 hb;refine Zm (i:=5) rfl (λK hK=>?_);exact Ea
  case hfin2 =>
   intro ν wx hb hP;have h2:=hP (2,18) Gh;simp only[Zaz]at h2;obtain⟨l0,m0,l8,l6,l7,l3,m4,m5,hν2,-⟩:=h2;have h4:=hP (4,20) Gh;simp only[Zaz]at h4;obtain⟨c4,c7,c9,c2,d0,c6,c1,c8,hν4,i8⟩:=h4;have h5:=hP (5,8) Gh;simp only[Zaz]at h5;obtain⟨b4,hν5,j7,i5⟩:=h5;simp only[Qe,Qf,Zal,Qc,Zg7,Zgl,Zg1];rw[hν2,hν4,hν5];clear hν2 hν4 hν5 hP ν;have o:=Gs a4 hb;have a5:=i5.four;have d3:Z1.heap.size<=b4:=j7;refine(Z7 c4 c7 c9 c2 d0 c6 c1 c8 o d3 i5).elim (λZ2 hq=>?_);have c0:=a5.1;have i6:=a5.2.1;have i1:=a5.2.2.1;have c3:=a5.2.2.2.1;have f0:=a5.2.2.2.2.1;have f1:=a5.2.2.2.2.2.1;have f2:=a5.2.2.2.2.2.2.1;have f3:=a5.2.2.2.2.2.2.2;have hZ:=hq.1;refine wpAnyL_o 6 λK hK=>?_;go_simp;(try rw[hZ]);refine hK.out _ _ (λ_=>b9.out _ hq.2.1) ?_;clear hK K
   try simp only[Qc,Zg7,Zgl,Zg1,Gr,Gq,Gp]
   refine wpAnyL_fin ?_;have f:=hq.2.1;have a8:=hq.2.2.1;have b0:=Fr.keep i8 hq.2.2.2.1;have l5:=Za d3;clear hq hZ c0 i6 i1 c3 f0 f1 f2 f3 a5 i5 j7 d3 o hb a4 b9 hxs2 i8;replace hz:=Za (hz.out.below f);replace hm:=Gm f hm;replace a9:=Za (a9.out.below f);replace hs:=Gm f hs;replace a6:=Za (a6.out.below f);replace hp:=Gm f hp;replace q4:=Gm f q4;replace b5:=Gm f b5;replace d9:=Za (d9.out.below f);have e8:=Gn i2 f;clear i2;replace g1:=Zb f g1;replace g0:=Zb f g0;replace g5:=Zb f g5;replace f9:=Zb f f9;replace f5:=Zb f f5;replace d7:=Zb f d7;replace d5:=Zb f d5;replace d8:=Zb f d8;clear f g1 g0 g5 f9 f5 d7 d5 d8;replace a8:=Za a8;replace b0:=Za b0;clear d9 b5 hz k1 k2;go_wp2_with fail;have u:Z2.cell? ⟨b4,0,none⟩=some (.bool c4):=a8.out.cell 0;have y:Z2.cell? ⟨b4,1,none⟩=some (.slice c7 c9 c2):=a8.out.cell 1;have Y:Z2.cell? ⟨b4,2,none⟩=some (.bool d0):=a8.out.cell 2;have O:Z2.cell? ⟨b4,3,none⟩=some (.slice c6 c1 c8):=a8.out.cell 3;have U:Z2.cell? ⟨gs,0,none⟩=some (.bool sn):=hs.out.cell 0;have J:Z2.cell? ⟨gs,1,none⟩=some (.slice sA sk sc):=hs.out.cell 1;have I:Z2.cell? ⟨gs,2,none⟩=some (.bool sm):=hs.out.cell 2;have T:Z2.cell? ⟨gs,3,none⟩=some (.slice sB sj sd):=hs.out.cell 3
   have C:Below Z2.heap.size Z2 Z2.drew:=Zf (Qj _ _) 1;replace hm:=Gm C hm;replace a9:=Za (a9.out.below C);replace hs:=Gm C hs;replace a6:=Za (a6.out.below C);replace hp:=Gm C hp;replace q4:=Gm C q4;replace a8:=Gm C a8;replace b0:=Za (b0.out.below C);have e7:=Gn e8 C;clear e8;replace u:=Zb C u;replace y:=Zb C y;replace Y:=Zb C Y;replace O:=Zb C O;replace U:=Zb C U;replace J:=Zb C J;replace I:=Zb C I;replace T:=Zb C T;clear C;refine Zx [] (λwx=>(wx.cell? ⟨b4,0,none⟩=some (.bool c4))/\(wx.cell? ⟨b4,1,none⟩=some (.slice c7 c9 c2))/\(wx.cell? ⟨b4,2,none⟩=some (.bool d0))/\(wx.cell? ⟨b4,3,none⟩=some (.slice c6 c1 c8))/\(wx.cell? ⟨gs,0,none⟩=some (.bool sn))/\(wx.cell? ⟨gs,1,none⟩=some (.slice sA sk sc))/\(wx.cell? ⟨gs,2,none⟩=some (.bool sm))/\(wx.cell? ⟨gs,3,none⟩=some (.slice sB sj sd))) hmx ⟨u,y,Y,O,U,J,I,T⟩ (λ_=>?_);refine Zj5 3 [0,1,4] rfl Gi ⟨u,y,Y,O,U,J,I,T⟩ ?_
   iterate 3 (refine tkA ?_;try simp only[Qc,Zg7,Zgl,Zg1,Gr,Gq,Gp])
   refine tk0 ?_;obtain⟨k9,d6⟩:=Gz Z2.drew.heap.size;obtain⟨l1,i0,b1,V⟩:=Zaw (w:=Z2.drew) 73 #[.bool c4,.slice c7 c9 c2,.bool d0,.slice c6 c1 c8];rw[d6]at b1;refine wpAnyL_o 2 λK hK=>?_;go_simp;(try rw[d6]);(try rw[i0]);clear i0;replace hm:=Gm V hm;replace a9:=Za (a9.out.below V);replace hs:=Gm V hs;replace a6:=Za (a6.out.below V);replace hp:=Gm V hp;replace q4:=Gm V q4;replace a8:=Gm V a8;replace b0:=Za (b0.out.below V);have e9:=Gn e7 V;clear e7;replace u:=Zb V u;replace y:=Zb V y;replace Y:=Zb V Y;replace O:=Zb V O;replace U:=Zb V U;replace J:=Zb V J;replace I:=Zb V I;replace T:=Zb V T;clear V;replace b1:=Za b1;replace d6:=Za d6;refine hK.out _ _ (λ_=>⟨u,y,Y,O,U,J,I,T⟩) ?_;clear hK K
   try simp only[Qc,Zg7,Zgl,Zg1,Gr,Gq,Gp]
   have b7:=Za (FL.sing1 b1.out b0.out);refine wpAnyL_o 3 λK hK=>?_;go_simp;refine(Zc2 c4 c7 c9 c2 d0 c6 c1 c8 _ (some ⟨k9,0,none⟩) 1 1 [d] l1 b0.out b7.out Gj (Zen k3.out) (Zfo k3.out)).mono ?_;rintro e l4 ⟨a3,pn,pA,pk,pc,pm,pB,pj,pd,rfl,pf⟩;replace hm:=Gm a3 hm;replace a9:=Za (a9.out.below a3);replace hs:=Gm a3 hs;replace a6:=Za (a6.out.below a3);replace hp:=Gm a3 hp;replace q4:=Gm a3 q4;replace a8:=Gm a3 a8;replace b0:=Za (b0.out.below a3);replace b1:=Gm a3 b1;replace b7:=Za (b7.out.below a3);have e4:=Gn e9 a3;clear e9;replace u:=Zb a3 u;replace y:=Zb a3 y;replace Y:=Zb a3 Y;replace O:=Zb a3 O;replace U:=Zb a3 U;replace J:=Zb a3 J;replace I:=Zb a3 I;replace T:=Zb a3 T;clear a3;rw[Zh0]at pf;replace pf:=Za pf;refine hK.out _ _ (λ_=>⟨u,y,Y,O,U,J,I,T⟩) ?_;clear hK K
   try simp only[Qc,Zg7,Zgl,Zg1,Gr,Gq,Gp]
   refine wpAnyL_o 5 λK hK=>?_;go_simp;refine(Zez pn pm sn sm pA pB sA sB pk pc pj pd sk sc sj sd _ _ l4 pf.out a6.out k4.out k5.out).mono ?_;rintro e k8 ⟨a2,rn,rA,rk,rc,rm,rB,rj,rd,rfl,rf⟩;replace hm:=Gm a2 hm;replace a9:=Za (a9.out.below a2);replace hs:=Gm a2 hs;replace a6:=Za (a6.out.below a2);replace hp:=Gm a2 hp;replace q4:=Gm a2 q4;replace a8:=Gm a2 a8;replace b0:=Za (b0.out.below a2);replace b1:=Gm a2 b1;replace b7:=Za (b7.out.below a2);replace pf:=Za (pf.out.below a2);have e5:=Gn e4 a2;clear e4;replace u:=Zb a2 u;replace y:=Zb a2 y;replace Y:=Zb a2 Y;replace O:=Zb a2 O;replace U:=Zb a2 U;replace J:=Zb a2 J;replace I:=Zb a2 I;replace T:=Zb a2 T;clear a2;replace rf:=Za rf;refine hK.out _ _ (λ_=>⟨u,y,Y,O,U,J,I,T⟩) ?_;clear hK K
   try simp only[Qc,Zg7,Zgl,Zg1,Gr,Gq,Gp]
   refine wpAnyL_o 6 λK hK=>?_;go_simp;refine(Zh3 rn rA rk rc rm rB rj rd _ k8 rf.out).mono ?_;rintro e o8 ⟨rfl,a1⟩;replace hm:=Gm a1 hm;replace a9:=Za (a9.out.below a1);replace hs:=Gm a1 hs;replace a6:=Za (a6.out.below a1);replace hp:=Gm a1 hp;replace q4:=Gm a1 q4;replace a8:=Gm a1 a8;replace b0:=Za (b0.out.below a1);replace b1:=Gm a1 b1;replace b7:=Za (b7.out.below a1);replace pf:=Za (pf.out.below a1);replace rf:=Za (rf.out.below a1);have d4:=Gn e5 a1;clear e5;replace u:=Zb a1 u;replace y:=Zb a1 y;replace Y:=Zb a1 Y;replace O:=Zb a1 O;replace U:=Zb a1 U;replace J:=Zb a1 J;replace I:=Zb a1 I;replace T:=Zb a1 T;clear a1;refine hK.out _ _ (λ_=>⟨u,y,Y,O,U,J,I,T⟩) ?_;clear hK K
   try simp only[Qc,Zg7,Zgl,Zg1,Gr,Gq,Gp]
   obtain⟨r2,a4⟩:=Gz (Zcq (d*d-sq).num 0);rw[a4];replace a4:=Za a4;refine Zj5 1 [7] rfl Gi ⟨u,y,Y,O,U,J,I,T⟩ ?_
   (refine tkA ?_;try simp only[Qc,Zg7,Zgl,Zg1,Gr,Gq,Gp])
   refine tk0 ?_;refine wpAnyL_fin ?_;clear u y Y O U J I T b7 pf rf hs a6 b1 k3 k4 k5;have lp:=hp.out.cell 0;simp at lp;have j4:Hid (r2<=0 ↔ d*d<=sq):=Za (by rw[<- a4.out,Zmr,Zrg]);have j9:Hid (0<=r2 ↔ sq<=d*d):=Za (by rw[<- a4.out,Zvm,Zru]);obtain⟨r1,a0⟩:=Gz (Zcq d.num 0);have f7:Hid (r1<=0 ↔ d<=0):=Za (by rw[<- a0,Zmr]);replace a0:=Za a0;have aF:=h9.out;clear h9;obtain⟨e0,e1,e2,e3,-⟩:=a8.out.four;by_cases b8:0<sg
   case pos =>
    have t0:decide (0<sg)=true:=Gv b8;rw[Gx b8]at aF;replace aF:=Za aF;replace b8:=Za b8;go_wp2_with fail;refine(Zh3 c4 c7 c9 c2 d0 c6 c1 c8 _ _ b0.out).mono ?_;rintro e w9 ⟨rfl,e6⟩;rw[a0.out];have gQ:=Gn d4 e6;clear e6 e0 e1 e2 e3;by_cases h1:r1<=0
    ·have t1:decide (r1<=0)=true:=Gv h1
     have bC:decide (d<=0)=true:=Gv (f7.out.1 h1);replace bC:=Za bC;replace h1:=Za h1;have dp:Hid (Zgy sg mq sq z=true):=Za (by rw[aF.out,bC.out];rfl);exact Fx
    have t1:decide (r1<=0)=false:=Gu h1;have bC:decide (d<=0)=false:=Gu (λh=>h1 (f7.out.2 h));replace bC:=Za bC;replace h1:=Za h1;by_cases h2:r2<=0
    ·have t2:decide (r2<=0)=true:=Gv h2
     have cY:=Gv (j4.out.1 h2);exact CJ
    have t2:decide (r2<=0)=false:=Gu h2;have cY:=Gu (λh=>h2 (j4.out.2 h));exact CL
   case neg =>
    have t0:decide (0<sg)=false:=Gu b8;rw[Gw b8]at aF;replace aF:=Za aF;replace b8:=Za b8;go_wp2_with fail;refine(Zh3 c4 c7 c9 c2 d0 c6 c1 c8 _ _ b0.out).mono ?_;rintro e w9 ⟨rfl,e6⟩;rw[a0.out];have gQ:=Gn d4 e6;clear e6 e0 e1 e2 e3;by_cases h1:r1<=0
    ·have t1:decide (r1<=0)=true:=Gv h1
     have bC:decide (d<=0)=true:=Gv (f7.out.1 h1);replace bC:=Za bC;replace h1:=Za h1;by_cases h2:0<=r2
     ·have t2:decide (0<=r2)=true:=Gv h2
      have cY:=Gv (j9.out.1 h2);exact CJ
     have t2:decide (0<=r2)=false:=Gu h2;have cY:=Gu (λh=>h2 (j9.out.2 h));exact CL
    have t1:decide (r1<=0)=false:=Gu h1;have bC:decide (d<=0)=false:=Gu (λh=>h1 (f7.out.2 h));replace bC:=Za bC;replace h1:=Za h1;have dp:Hid (Zgy sg mq sq z=false):=Za (by rw[aF.out,bC.out];rfl);exact Fx
def IsRoot(s r:Nat):Prop:=r*r<=s/\s<(r+1)*(r+1)
theorem IsRoot.unique{s r t:Nat}(h:IsRoot s r)(k:IsRoot s t):r=t:=by
 obtain⟨h1,h2⟩:=h;obtain⟨k1,k2⟩:=k;rcases Nat.lt_trichotomy r t with h3|h3|h3
 ·have:(r+1)*(r+1)<=t*t:=Nat.mul_le_mul h3 h3
  omega
 exact h3;have:(t+1)*(t+1)<=r*r:=Nat.mul_le_mul h3 h3;omega
noncomputable def rootN (z:Nat):Nat:=@dite Nat (∃ r,IsRoot z r) (Classical.propDecidable _) (λh=>Classical.choose h) (λ_=>0)
theorem Ziz{z r:Nat}(h:IsRoot z r):rootN z=r:=by
 unfold rootN;rw[@dif_pos _ (Classical.propDecidable _) ⟨r,h⟩];exact(Classical.choose_spec (⟨r,h⟩:∃ r,IsRoot z r)).unique h
theorem Zs2(A:Option Addr)(n c u:Nat)(w:World)(hz:Wd w false A n c (u:Int)) :
    Calls Tryz.prog 122 #[.agg #[.bool false,.slice A n c],.int .i64 (-1)] w (NumE w ((u/2:Nat):Int)):=by
 have hn:=hz.2.1;obtain⟨W0,a7,O,⟨q1,q2⟩,s0⟩:=Zdl w 39 #[.bool false,.slice A n c] 39 #[.bool false,.slice none 0 0];obtain⟨Y1,a2,qz,I⟩:=Zaw (w:=W0) 39 #[.bool false,.slice A n c];have C:Hid (okW false (digits u)=true):=by have h:=hz.ok;rw[Qa]at h;exact Za h
 have b4:Hid (u<pw 4096):=by
  have h:=hz.lim.len;have h2:=(Zt (u:Int).natAbs 4096).1;rw[Qa]at h h2;exact Za (h2 Gk)
 have o:=Za (hz.below O)
 have a0:Hid (WL Y1 (some ⟨W0.heap.size,0,none⟩) 1 1 [⟨false,A,n,c,digits u⟩]):=Za (by
  have h:=o.out.lim;rw[Qa]at h;rw[<- a2];exact WL.one h _)
 obtain⟨gz,a4⟩:=Gz W0.heap.size;rw[a4]at a0;obtain⟨b2,b3,-⟩:=q1.two;replace q1:=Za (Zc I q1);replace q2:=Za (Zc I q2);replace o:=Za (o.out.below I);have b1:=hz.lim.2.2.1;have b7:=hz.lim.2.1;unfold maxLen at b1;have a5:=Za (Gs O I);obtain⟨T,J,-⟩:=q1.out.two;clear hz I O;replace s0:=Za s0;go_in;go_wp2_with fail;(try rw[a7]);(try rw[a4]);(try rw[a2]);clear a7 a2 a4 qz s0 b2 b3;refine(Zdm a0.out (by have:=C.out;simp[WE.ok,this])).mono ?_;rintro e w1 ⟨rfl,f⟩;replace q1:=Gm f q1;replace q2:=Gm f q2;replace o:=Za (o.out.below f);have a3:=Gn a5 f;clear a5 f a0 C T J;obtain⟨T,J,-⟩:=q1.out.two;go_wp2_with fail;refine(Zol A n c 1 _ w1 o.out.lim Gj Gk).mono ?_;rintro e w3 ⟨Ah,nh,ch,oh,bh,rfl,y,a6,f⟩;replace q1:=Gm f q1;replace q2:=Gm f q2;replace o:=Za (o.out.below f);have a1:=Gn a3 f;clear a3 f;rw[Qa,Zh]at a6;have b8:=y.2.1;have b0:=y.2.2.1;unfold maxLen at b0;have V:val oh=u/2:=by simpa using a6
 replace V:=Za V;clear a6 T J;obtain⟨T,J,-⟩:=q1.out.two;replace y:=Za y;clear o;go_wp2_with fail;refine(Zca false Ah nh ch _ w3 y.out).mono ?_;rintro e w5 ⟨f,rn,rA,rk,rc,code,rfl,hP⟩;replace q1:=Gm f q1;replace q2:=Gm f q2;replace y:=Za (y.out.below f);have b6:=Gn a1 f;clear a1 f;rw[V.out]at hP
 have Y:(sg false (u/2)).natAbs<pw 4096:=by
  show ((u/2:Nat):Int).natAbs<_;rw[Qa];exact Qv (Nat.div_le_self _ _) b4.out
 have a8:Wd w5 rn rA rk rc ((u/2:Nat):Int):=hP.small Y;obtain rfl:code=0:=hP.code0 Y;obtain⟨e0,e1,f0,f1⟩:=q2.out.two;clear hP Y;obtain⟨U,hU,b5,q3,kW,-,-⟩:=Zar rn rA rk rc b6.out (Qw _) q2.out;obtain⟨r0,r1,-⟩:=q3.two;have a9:=Za (kW _ _ _ _ _ a8);clear kW a8;go_wp2_with fail;(try rw[hU]);refine bodyPost_ret (v:=.tuple #[.agg #[.bool rn,.slice rA rk rc],.int .i64 0]) (by simp[results,Tryz.results122,go_sem,r0,r1]) rfl ?_;exact⟨b5,_,_,_,_,rfl,a9.out⟩
structure EdgeP (sg:Int) (mq sq:Rat) (M:Int):Prop where
 low:∀ z:Int,-1<=z->(Zgy sg mq sq z=true ↔ z<=M)
 m:-1<=M
 big:M<((pw 313:Nat):Int)
 sm:Sm mq
 ss:Sm sq
 z:∀ z:Int,-1<=z->z<=2*M+2->Sm (z:Rat)/\Sm ((z:Rat)-mq)/\Sm (((z:Rat)-mq)*((z:Rat)-mq))
theorem Zzz{M:Int}(h:M<((pw 313:Nat):Int)){z:Int}(h1:-1<=z)(h2:z<=8*M+64):z.natAbs<pw 4096:=by
 have h3:pw 314<=pw 4096:=Zbm Gj;have h4:pw 314=4294967296*pw 313:=by rw[Za2]
 have h6:=Zb4 313;generalize pw 4096=R at *;generalize pw 314=Q at *;generalize pw 313=P at *;omega
theorem cmp_le1{a b:Int}:Zcq a b<=0 ↔ a<=b:=by
 unfold Zcq
 split
 ·constructor <;> intro _ <;> omega
 split
 ·constructor <;> intro h1 <;> omega
 constructor <;> intro _ <;> omega
theorem Zv7(mn:Bool)(mA:Option Addr)(mk mc:Nat)(mm:Bool)(mB:Option Addr)(mj md:Nat)(sn:Bool)(sA:Option Addr)(sk sc:Nat)(sm:Bool)(sB:Option Addr)(sj sd:Nat)(sg:Int)(mq sq:Rat)(M:Int)(w:World)(o:Fr w mn mA mk mc mm mB mj md mq)(u:Fr w sn sA sk sc sm sB sj sd sq)(hE:EdgeP sg mq sq M) :
    Calls Tryz.prog 72 #[.agg #[.bool mn,.slice mA mk mc,.bool mm,.slice mB mj md],.agg #[.bool sn,.slice sA sk sc,.bool sm,.slice sB sj sd],.int .i64 sg] w (NumW w M):=by
 have hmx:=Gt;have o1:∀ (fn:Fn) (first cap:Array Value) (w:World),(Instr.makeFunc fn first cap).run Tryz.prog w=.ok (.func fn first cap) w:=λ_ _ _ _=>rfl;have e9:Hid (∀ z:Int,-1<=z->z<=8*M+64->z.natAbs<pw 4096):=Za (λz h1 h2=>Zzz hE.big h1 h2);have n7:=hE.m;replace hE:=Za hE;obtain⟨W0,l7,g1,⟨qm,qs,qp,qr⟩,s0⟩:=Zfr w 73 #[.bool mn,.slice mA mk mc,.bool mm,.slice mB mj md] 73 #[.bool sn,.slice sA sk sc,.bool sm,.slice sB sj sd] 3 #[.int .i64 sg] 39 #[.bool false,.slice none 0 0];replace o:=Za (o.below g1);replace u:=Za (u.below g1);replace qm:=Za qm;replace qs:=Za qs;replace qp:=Za qp;replace qr:=Za qr;replace g1:=Za g1;replace s0:=Za s0;go_in;go_wp2_with fail;(try rw[l7]);clear l7;refine(Zb2 (-1) W0 Gj Gj).mono ?_;rintro e w1 ⟨f,ln,lA,lk,lc,rfl,lf⟩;replace o:=Za (o.out.below f);replace u:=Za (u.out.below f);replace qm:=Gm f qm;replace qs:=Gm f qs;replace qp:=Gm f qp;replace qr:=Gm f qr;have k5:=Gn g1 f;clear g1 f;replace lf:=Za lf;go_wp2_with fail;refine(Zb2 1 w1 Gj Gj).mono ?_;rintro e w3 ⟨f,tn,tA,tk,tc,rfl,tf⟩;replace o:=Za (o.out.below f);replace u:=Za (u.out.below f);replace qm:=Gm f qm;replace qs:=Gm f qs;replace qp:=Gm f qp;replace qr:=Gm f qr;replace lf:=Za (lf.out.below f);have k4:=Gn k5 f;clear k5 f;replace tf:=Za tf;have n8:Hid (w.heap.size+1+1+1<w3.heap.size):=Za qr.out.lt
 obtain⟨V5,l5,d8,⟨q8,q9⟩,s2⟩:=Zdl w3 39 #[.bool ln,.slice lA lk lc] 39 #[.bool tn,.slice tA tk tc];obtain⟨g8,j9⟩:=Gz w3.heap.size;rw[j9]at q8 q9 n8;have n9:Hid (g8<g8+1):=Za (Nat.lt_succ_self _);replace s2:=Za s2;replace o:=Za (o.out.below d8);replace u:=Za (u.out.below d8);replace qm:=Gm d8 qm;replace qs:=Gm d8 qs;replace qp:=Gm d8 qp;replace qr:=Gm d8 qr;replace lf:=Za (lf.out.below d8);replace tf:=Za (tf.out.below d8);have k7:=Gn k4 d8;clear k4 d8;replace q8:=Za q8;replace q9:=Za q9;obtain⟨x0,x1,-⟩:=q8.out.two;obtain⟨υ0,υ1,-⟩:=q9.out.two;go_wp2_with fail;(try rw[j9]);(try rw[l5]);clear l5;replace j9:=Za j9;clear x0 x1 υ0 υ1;refine(Zk1 ln tn lA tA lk lc tk tc (-1) 1 V5 lf.out tf.out).mono ?_;rintro e w7 ⟨f,hn,hA,hk,hc,cd,rfl,hP⟩;replace o:=Za (o.out.below f);replace u:=Za (u.out.below f);replace qm:=Gm f qm;replace qs:=Gm f qs;replace qp:=Gm f qp;replace qr:=Gm f qr;replace lf:=Za (lf.out.below f);replace tf:=Za (tf.out.below f);replace q8:=Gm f q8;replace q9:=Gm f q9;have k8:=Gn k7 f;clear k7 f;have a7:=e9.out (-1+1) Gk Gk;have hf:Wd w7 hn hA hk hc (-1+1):=hP.small a7;obtain rfl:cd=0:=hP.code0 a7;clear hP a7;replace hf:=Za hf;have a5:Hid ((g8+1)<w7.heap.size):=Za q9.out.lt
 obtain⟨g9,e8⟩:=Gz w7.heap.size;obtain⟨o2,k1,j1,a6⟩:=Zaw (w:=w7) 39 #[.bool hn,.slice hA hk hc];rw[e8]at j1;replace o:=Za (o.out.below a6);replace u:=Za (u.out.below a6);replace qm:=Gm a6 qm;replace qs:=Gm a6 qs;replace qp:=Gm a6 qp;replace qr:=Gm a6 qr;replace lf:=Za (lf.out.below a6);replace tf:=Za (tf.out.below a6);replace q8:=Gm a6 q8;replace q9:=Gm a6 q9;replace hf:=Za (hf.out.below a6);have k2:=Gn k8 a6;clear k8 a6;replace j1:=Za j1;rw[e8]at a5;go_wp2_with fail;(try rw[e8]);(try rw[k1]);clear k1;replace e8:=Za e8
 go_loopg [] (M+1).toNat (λx wr=>∃ (lo st hi:Int) (ln:Bool) (lA:Option Addr) (lk lc:Nat) (tn:Bool) (tA:Option Addr) (tk tc:Nat) (hn:Bool) (hA:Option Addr) (hk hc:Nat),Hid (x=(M-lo).toNat)/\lo=st-2/\1<=st/\hi=lo+st/\lo<=M/\-1<=lo/\Hid (Blk wr g8 39 #[.bool ln,.slice lA lk lc])/\Hid (Blk wr (g8+1) 39 #[.bool tn,.slice tA tk tc])/\Hid (Blk wr g9 39 #[.bool hn,.slice hA hk hc])/\Hid (Wd wr ln lA lk lc lo)/\Hid (Wd wr tn tA tk tc st)/\Hid (Wd wr hn hA hk hc hi)/\Hid (Blk wr w.heap.size 73 #[.bool mn,.slice mA mk mc,.bool mm,.slice mB mj md])/\Hid (Blk wr (w.heap.size+1) 73 #[.bool sn,.slice sA sk sc,.bool sm,.slice sB sj sd])/\Hid (Blk wr (w.heap.size+1+1) 3 #[.int .i64 sg])/\Hid (Blk wr (w.heap.size+1+1+1) 39 #[.bool false,.slice none 0 0])/\Hid (Fr wr mn mA mk mc mm mB mj md mq)/\Hid (Fr wr sn sA sk sc sm sB sj sd sq)/\Hid (Below w.heap.size w wr))
 case atStart=>exact⟨-1,1,0,_,_,_,_,_,_,_,_,_,_,_,_,Za Gk,by omega,by omega,by omega,by omega,by omega,q8,q9,j1,lf,tf,hf,qm,qs,qp,qr,o,u,k2⟩
 case round =>
  clear q8 q9 j1 lf tf hf qm qs qp qr o u k2;obtain⟨wi,rfl⟩:=Gy wr;obtain⟨lo,st,hi,ln,lA,lk,lc,tn,tA,tk,tc,hn,hA,hk,hc,g5,m2,m3,m4,k0,j8,q8,q9,y,lf,tf,hf,qm,qs,qp,qr,o,u,f5⟩:=hrel;obtain⟨y0,y1,-⟩:=y.out.two;go_wp2_with fail;clear y0 y1;refine(Zte hn hA hk hc (hi) w.heap.size (w.heap.size+1) (w.heap.size+1+1) mn mA mk mc mm mB mj md sn sA sk sc sm sB sj sd sg mq sq wi hf.out qm.out o.out qs.out u.out qp.out (hE.out.z _ Gk Gk).1 hE.out.sm (hE.out.z _ Gk Gk).2.1 (hE.out.z _ Gk Gk).2.2 hE.out.ss).mono ?_;rintro e n3 ⟨rfl,f⟩;replace q8:=Gm f q8;replace q9:=Gm f q9;replace y:=Gm f y;replace lf:=Za (lf.out.below f);replace tf:=Za (tf.out.below f);replace hf:=Za (hf.out.below f);replace qm:=Gm f qm;replace qs:=Gm f qs;replace qp:=Gm f qp;replace qr:=Gm f qr;replace o:=Za (o.out.below f);replace u:=Za (u.out.below f);have e3:=Gn f5 f;clear f5 f;by_cases hbe:hi<=M
  case pos =>
   have t1:Zgy sg mq sq hi=true:=(hE.out.low hi Gk).2 hbe;rw[t1];clear t1;obtain⟨x0,x1,-⟩:=y.out.two;obtain⟨l6,j3,h6,e5,c7,b9,-⟩:=Zar hn hA hk hc e3.out (show w.heap.size<=g8 by have:=n8.out;have:=n9.out;have:=a5.out;omega) q8.out;have h8:=Za (b9 _ _ _ Gd q9.out);have a9:=Za (b9 _ _ _ Gd y.out);have lfz:=Za (c7 _ _ _ _ _ lf.out);have tfz:=Za (c7 _ _ _ _ _ tf.out);have b5:=Za (c7 _ _ _ _ _ hf.out);have qmz:=Za (b9 _ _ _ Gd qm.out);have qsz:=Za (b9 _ _ _ Gd qs.out);have qpz:=Za (b9 _ _ _ Gd qp.out);have qrz:=Za (b9 _ _ _ Gd qr.out);have V:=Za (Fr.keep o.out c7);have Y:=Za (Fr.keep u.out c7);have g4:=Za h6;replace e5:=Za e5;obtain⟨y0,y1,z0,z1⟩:=q8.out.two;obtain⟨a0,a1,-⟩:=h8.out.two;go_wp2_with fail;clear x0 x1 a0 a1;(try rw[j3]);clear j3 c7 b9 h6 y0 y1 z0 z1;replace q9:=h8;clear h8;replace y:=a9;clear a9;replace lf:=lfz;clear lfz;replace tf:=tfz;clear tfz;replace hf:=b5;clear b5;replace qm:=qmz;clear qmz;replace qs:=qsz;clear qsz;replace qp:=qpz;clear qpz;replace qr:=qrz;clear qrz;replace o:=V;clear V;replace u:=Y;clear Y q8;have q8:=e5
   clear e5 e3 lf;refine(Zk1 tn tn tA tA tk tc tk tc st st l6 tf.out tf.out).mono ?_;rintro e m1 ⟨f,an,aA,ak,ac,cd,rfl,hP⟩;replace q8:=Gm f q8;replace q9:=Gm f q9;replace y:=Gm f y;replace tf:=Za (tf.out.below f);replace hf:=Za (hf.out.below f);replace qm:=Gm f qm;replace qs:=Gm f qs;replace qp:=Gm f qp;replace qr:=Gm f qr;replace o:=Za (o.out.below f);replace u:=Za (u.out.below f);have j2:=Gn g4 f;clear g4 f;have a7:=e9.out (st+st) Gk Gk;have af:Wd m1 an aA ak ac (st+st):=hP.small a7;obtain rfl:cd=0:=hP.code0 a7;clear hP a7;replace af:=Za af;obtain⟨l9,i9,h5,d5,c9,b8,-⟩:=Zar an aA ak ac j2.out (show w.heap.size<=(g8+1) by have:=n8.out;have:=n9.out;have:=a5.out;omega) q9.out;have c8:=Za (b8 _ _ _ Gd q8.out);have a9:=Za (b8 _ _ _ Gd y.out);have tfz:=Za (c9 _ _ _ _ _ tf.out);have b5:=Za (c9 _ _ _ _ _ hf.out);have qmz:=Za (b8 _ _ _ Gd qm.out);have qsz:=Za (b8 _ _ _ Gd qs.out);have qpz:=Za (b8 _ _ _ Gd qp.out);have qrz:=Za (b8 _ _ _ Gd qr.out)
   have V:=Za (Fr.keep o.out c9);have Y:=Za (Fr.keep u.out c9);have afz:=Za (c9 _ _ _ _ _ af.out);have f6:=Za h5;replace d5:=Za d5;obtain⟨y0,y1,z0,z1⟩:=q9.out.two;obtain⟨a0,a1,-⟩:=c8.out.two;obtain⟨b0,b1,-⟩:=d5.out.two;go_wp2_with fail;clear a0 a1 b0 b1;(try rw[i9]);clear i9 c9 b8 h5 y0 y1 z0 z1;replace q8:=c8;clear c8;replace y:=a9;clear a9;replace tf:=tfz;clear tfz;replace hf:=b5;clear b5;replace qm:=qmz;clear qmz;replace qs:=qsz;clear qsz;replace qp:=qpz;clear qpz;replace qr:=qrz;clear qrz;replace o:=V;clear V;replace u:=Y;clear Y;replace af:=afz;clear afz q9;have q9:=d5;clear d5 j2 tf;refine(Zk1 hn an hA aA hk hc ak ac hi (st+st) l9 hf.out af.out).mono ?_;rintro e l1 ⟨f,bn,bA,bk,bc,cd,rfl,hP⟩;replace q8:=Gm f q8;replace q9:=Gm f q9;replace y:=Gm f y;replace hf:=Za (hf.out.below f);replace qm:=Gm f qm;replace qs:=Gm f qs;replace qp:=Gm f qp;replace qr:=Gm f qr;replace o:=Za (o.out.below f);replace u:=Za (u.out.below f);replace af:=Za (af.out.below f);have i3:=Gn f6 f;clear f6 f;have a7:=e9.out (hi+(st+st)) Gk Gk;have bf:Wd l1 bn bA bk bc (hi+(st+st)):=hP.small a7;obtain rfl:cd=0:=hP.code0 a7;clear hP a7;replace bf:=Za bf
   obtain⟨n2,j0,g7,e6,c5,c2,-⟩:=Zar bn bA bk bc i3.out (show w.heap.size<=g9 by have:=n8.out;have:=n9.out;have:=a5.out;omega) y.out;have c8:=Za (c2 _ _ _ Gd q8.out);have h8:=Za (c2 _ _ _ Gd q9.out);have b5:=Za (c5 _ _ _ _ _ hf.out);have qmz:=Za (c2 _ _ _ Gd qm.out);have qsz:=Za (c2 _ _ _ Gd qs.out);have qpz:=Za (c2 _ _ _ Gd qp.out);have qrz:=Za (c2 _ _ _ Gd qr.out);have V:=Za (Fr.keep o.out c5);have Y:=Za (Fr.keep u.out c5);have afz:=Za (c5 _ _ _ _ _ af.out);have bfz:=Za (c5 _ _ _ _ _ bf.out);have k3:=Za g7;replace e6:=Za e6;obtain⟨y0,y1,z0,z1⟩:=y.out.two;go_wp2_with fail;(try rw[j0]);clear j0 c5 c2 g7 y0 y1 z0 z1;replace q8:=c8;clear c8;replace q9:=h8;clear h8;replace hf:=b5;clear b5;replace qm:=qmz;clear qmz;replace qs:=qsz;clear qsz;replace qp:=qpz;clear qpz;replace qr:=qrz;clear qrz;replace o:=V;clear V;replace u:=Y;clear Y;replace af:=afz;clear afz;replace bf:=bfz;clear bfz y;have y:=e6;clear e6 i3
   go_roundg (M-hi).toNat
   case measure=>have:=g5.out;omega
   case rel=>exact⟨hi,st+st,hi+(st+st),_,_,_,_,_,_,_,_,_,_,_,_,Za rfl,by omega,by omega,rfl,hbe,by omega,q8,q9,y,hf,af,bf,qm,qs,qp,qr,o,u,k3⟩
  have t1:Zgy sg mq sq hi=false:=by
   cases h9:Zgy sg mq sq hi with
   | false=>rfl
   | true=>exact absurd ((hE.out.low hi Gk).1 h9) hbe
  rw[t1];clear t1;go_wp2_with fail;have I:Hid (g8<g9):=Za (by have:=n9.out;have:=a5.out;omega);replace g5:=Za g5
  go_loopg [12,13,14,15,16,17] (hi-lo).toNat (λx v12 v13 v14 v15 v16 v17 wr=>∃ (lo hi:Int) (ln:Bool) (lA:Option Addr) (lk lc:Nat) (hn:Bool) (hA:Option Addr) (hk hc:Nat),Hid (x=(hi-lo).toNat)/\lo<=M/\-1<=lo/\M<hi/\hi<=2*M+2/\Hid (Blk wr g8 39 #[.bool ln,.slice lA lk lc])/\Hid (Blk wr g9 39 #[.bool hn,.slice hA hk hc])/\Hid (Wd wr ln lA lk lc lo)/\Hid (Wd wr hn hA hk hc hi)/\Hid (Blk wr w.heap.size 73 #[.bool mn,.slice mA mk mc,.bool mm,.slice mB mj md])/\Hid (Blk wr (w.heap.size+1) 73 #[.bool sn,.slice sA sk sc,.bool sm,.slice sB sj sd])/\Hid (Blk wr (w.heap.size+1+1) 3 #[.int .i64 sg])/\Hid (Blk wr (w.heap.size+1+1+1) 39 #[.bool false,.slice none 0 0])/\Hid (Fr wr mn mA mk mc mm mB mj md mq)/\Hid (Fr wr sn sA sk sc sm sB sj sd sq)/\Hid (Below w.heap.size w wr))
  case atStart=>exact⟨lo,hi,_,_,_,_,_,_,_,_,Za rfl,k0,j8,by omega,by omega,q8,y,lf,hf,qm,qs,qp,qr,o,u,e3⟩
  case round =>
   clear q8 q9 y lf tf hf qm qs qp qr o u e3 g5 m2 m3 m4 k0 j8 hbe;obtain⟨wj,rfl⟩:=Gy wr;obtain⟨lo,hi,ln,lA,lk,lc,hn,hA,hk,hc,g5,k0,j8,m6,m5,q8,y,lf,hf,qm,qs,qp,qr,o,u,f5⟩:=hrel;obtain⟨x0,x1,-⟩:=y.out.two;obtain⟨υ0,υ1,-⟩:=q8.out.two;go_wp2_with fail;clear x0 x1 υ0 υ1;refine(Zum hn ln hA lA hk hc lk lc hi lo wj hf.out lf.out).mono ?_;rintro e g6 ⟨f,dn,dA,dk,dc,cd,rfl,hP⟩;replace q8:=Gm f q8;replace y:=Gm f y;replace lf:=Za (lf.out.below f);replace hf:=Za (hf.out.below f);replace qm:=Gm f qm;replace qs:=Gm f qs;replace qp:=Gm f qp;replace qr:=Gm f qr;replace o:=Za (o.out.below f);replace u:=Za (u.out.below f);have f3:=Gn f5 f;clear f5 f;have a7:=e9.out (hi-lo) Gk Gk;have df:Wd g6 dn dA dk dc (hi-lo):=hP.small a7;obtain rfl:cd=0:=hP.code0 a7;clear hP a7;replace df:=Za df;have a4:Hid (g9<g6.heap.size):=Za y.out.lt;obtain⟨e0,d7⟩:=Gz g6.heap.size;obtain⟨d9,i1,C,T⟩:=Zaw (w:=g6) 39 #[.bool dn,.slice dA dk dc];rw[d7]at C;replace q8:=Gm T q8;replace y:=Gm T y;replace lf:=Za (lf.out.below T);replace hf:=Za (hf.out.below T);replace qm:=Gm T qm;replace qs:=Gm T qs;replace qp:=Gm T qp;replace qr:=Gm T qr
   replace o:=Za (o.out.below T);replace u:=Za (u.out.below T);replace df:=Za (df.out.below T);have f4:=Gn f3 T;clear f3 T;replace C:=Za C;rw[d7]at a4;go_wp2_with fail;(try rw[d7]);(try rw[i1]);clear i1;replace d7:=Za d7;have a3:d9.cell? ⟨e0,0,none⟩=some (.bool dn):=C.out.cell 0;have a2:d9.cell? ⟨e0,1,none⟩=some (.slice dA dk dc):=C.out.cell 1;have J:Below d9.heap.size d9 d9.drew:=Zf (Qj _ _) 1;replace q8:=Gm J q8;replace y:=Gm J y;replace lf:=Za (lf.out.below J);replace hf:=Za (hf.out.below J);replace qm:=Gm J qm;replace qs:=Gm J qs;replace qp:=Gm J qp;replace qr:=Gm J qr;replace o:=Za (o.out.below J);replace u:=Za (u.out.below J);replace df:=Za (df.out.below J);replace C:=Gm J C;have g0:=Gn f4 J;clear f4;replace a3:=Zb J a3;replace a2:=Zb J a2;clear J;refine Zx [] (λwx=>(wx.cell? ⟨e0,0,none⟩=some (.bool dn))/\(wx.cell? ⟨e0,1,none⟩=some (.slice dA dk dc))) hmx ⟨a3,a2⟩ (λ_=>?_);refine Zj5 1 [0] rfl Gi ⟨a3,a2⟩ ?_
   (refine tkA ?_;try simp only[Qc,Zg7,Zgl,Zg1,Gr,Gq,Gp])
   refine tk0 ?_;refine wpAnyL_o 1 λK hK=>?_;go_simp;refine(Zb2 1 d9.drew Gj Gj).mono ?_;rintro e l3 ⟨b7,on,oA,ok,oc,rfl,of⟩;replace q8:=Gm b7 q8;replace y:=Gm b7 y;replace lf:=Za (lf.out.below b7);replace hf:=Za (hf.out.below b7);replace qm:=Gm b7 qm;replace qs:=Gm b7 qs;replace qp:=Gm b7 qp;replace qr:=Gm b7 qr;replace o:=Za (o.out.below b7);replace u:=Za (u.out.below b7);replace df:=Za (df.out.below b7);replace C:=Gm b7 C;have f7:=Gn g0 b7;clear g0;replace a3:=Zb b7 a3;replace a2:=Zb b7 a2;clear b7;replace of:=Za of;refine hK.out _ _ (λ_=>⟨a3,a2⟩) ?_;clear hK K
   try simp only[Qc,Zg7,Zgl,Zg1,Gr,Gq,Gp]
   refine wpAnyL_o 2 λK hK=>?_;go_simp;refine(Zq4 dn on dA oA dk dc ok oc (hi-lo) 1 l3 df.out of.out).mono ?_;rintro e m0 ⟨rfl,b6⟩;replace q8:=Gm b6 q8;replace y:=Gm b6 y;replace lf:=Za (lf.out.below b6);replace hf:=Za (hf.out.below b6);replace qm:=Gm b6 qm;replace qs:=Gm b6 qs;replace qp:=Gm b6 qp;replace qr:=Gm b6 qr;replace o:=Za (o.out.below b6);replace u:=Za (u.out.below b6);replace df:=Za (df.out.below b6);replace C:=Gm b6 C;replace of:=Za (of.out.below b6);have e2:=Gn f7 b6;clear f7;replace a3:=Zb b6 a3;replace a2:=Zb b6 a2;clear b6;refine hK.out _ _ (λ_=>⟨a3,a2⟩) ?_;clear hK K
   try simp only[Qc,Zg7,Zgl,Zg1,Gr,Gq,Gp]
   obtain⟨r2,i2⟩:=Gz (Zcq (hi-lo) 1);rw[i2];have k6:Hid (r2<=0 ↔ hi-lo<=1):=Za (by rw[<- i2];exact cmp_le1);replace i2:=Za i2;refine Zj5 5 [3,4,5,6,7] rfl Gi ⟨a3,a2⟩ ?_
   iterate 5 (refine tkA ?_;try simp only[Qc,Zg7,Zgl,Zg1,Gr,Gq,Gp])
   refine tk0 ?_;refine wpAnyL_fin ?_;clear a3 a2 of;by_cases j7:hi-lo<=1
   case pos =>
    have t1:decide (r2<=0)=true:=Gv (k6.out.2 j7);obtain rfl:lo=M:=Gk;obtain⟨x0,x1,-⟩:=q8.out.two;obtain⟨y0,y1,z0,z1⟩:=qr.out.two;obtain⟨U,hU,m7,q3,kW,-,-⟩:=Zar ln lA lk lc e2.out (show w.heap.size<=(w.heap.size+1+1+1) by omega) qr.out;obtain⟨r0,r1,-⟩:=q3.two;have l4:=Za (kW _ _ _ _ _ lf.out);clear kW;replace j7:=Za j7;go_wp2_with fail;(try rw[hU]);refine bodyPost_ret (v:=.agg #[.bool ln,.slice lA lk lc]) (by simp[results,Tryz.results72,go_sem,r0,r1]) rfl ?_;exact⟨m7,_,_,_,_,rfl,l4.out⟩
   have t1:decide (r2<=0)=false:=Gu (λh=>j7 (k6.out.1 h));clear k6 i2;obtain⟨x0,x1,-⟩:=C.out.two;obtain⟨D,hD⟩:∃ D:Nat,hi-lo=(D:Int):=⟨(hi-lo).toNat,by omega⟩;rw[hD]at df;obtain rfl:dn=false:=by rw[df.out.1];exact Gu Gk
   go_wp2_with fail;clear x0 x1;refine(Zs2 dA dk dc D m0 df.out).mono ?_;rintro e n1 ⟨f,en,eA,ek,ec,rfl,ef⟩;replace q8:=Gm f q8;replace y:=Gm f y;replace lf:=Za (lf.out.below f);replace hf:=Za (hf.out.below f);replace qm:=Gm f qm;replace qs:=Gm f qs;replace qp:=Gm f qp;replace qr:=Gm f qr;replace o:=Za (o.out.below f);replace u:=Za (u.out.below f);replace df:=Za (df.out.below f);replace C:=Gm f C;have j5:=Gn e2 f;clear e2 f;have n6:Hid (hi-lo=(D:Int)):=Za hD;obtain⟨H,hH⟩:∃ H:Nat,D/2=H:=⟨_,rfl⟩;rw[hH]at ef;have o0:1<=H:=Gk;have o3:H<D:=Gk
   replace hH:=Za hH;replace ef:=Za ef;clear df;have n5:=a4;obtain⟨l2,j6,h7,d4,c6,c1,-⟩:=Zar en eA ek ec j5.out (show w.heap.size<=e0 by have:=n8.out;have:=I.out;have:=a4.out;omega) C.out;have c8:=Za (c1 _ _ _ GZ q8.out);have a9:=Za (c1 _ _ _ GZ y.out);have lfz:=Za (c6 _ _ _ _ _ lf.out);have b5:=Za (c6 _ _ _ _ _ hf.out);have qmz:=Za (c1 _ _ _ GZ qm.out);have qsz:=Za (c1 _ _ _ GZ qs.out);have qpz:=Za (c1 _ _ _ GZ qp.out);have qrz:=Za (c1 _ _ _ GZ qr.out);have V:=Za (Fr.keep o.out c6);have Y:=Za (Fr.keep u.out c6);have efz:=Za (c6 _ _ _ _ _ ef.out);have g2:=Za h7;replace d4:=Za d4;obtain⟨y0,y1,z0,z1⟩:=C.out.two;obtain⟨a0,a1,-⟩:=c8.out.two;obtain⟨b0,b1,-⟩:=d4.out.two;go_wp2_with fail;clear a0 a1 b0 b1;(try rw[j6]);clear j6 c6 c1 h7 y0 y1 z0 z1;replace q8:=c8;clear c8;replace y:=a9;clear a9;replace lf:=lfz;clear lfz;replace hf:=b5;clear b5;replace qm:=qmz;clear qmz;replace qs:=qsz;clear qsz;replace qp:=qpz;clear qpz;replace qr:=qrz;clear qrz;replace o:=V;clear V;replace u:=Y;clear Y;replace ef:=efz;clear efz C;have C:=d4
   clear d4 j5;refine(Zk1 ln en lA eA lk lc ek ec lo (H:Int) l2 lf.out ef.out).mono ?_;rintro e h4 ⟨f,i7,j4,i0,i4,cd,rfl,hP⟩;replace q8:=Gm f q8;replace y:=Gm f y;replace lf:=Za (lf.out.below f);replace hf:=Za (hf.out.below f);replace qm:=Gm f qm;replace qs:=Gm f qs;replace qp:=Gm f qp;replace qr:=Gm f qr;replace o:=Za (o.out.below f);replace u:=Za (u.out.below f);replace C:=Gm f C;replace ef:=Za (ef.out.below f);have f8:=Gn g2 f;clear g2 f;have a7:=e9.out (lo+(H:Int)) Gk Gk;have c4:Wd h4 i7 j4 i0 i4 (lo+(H:Int)):=hP.small a7;obtain rfl:cd=0:=hP.code0 a7;clear hP a7;replace c4:=Za c4;have b2:Hid (e0<h4.heap.size):=Za C.out.lt;obtain⟨m8,d6⟩:=Gz h4.heap.size;obtain⟨l8,i8,a8,O⟩:=Zaw (w:=h4) 39 #[.bool i7,.slice j4 i0 i4];rw[d6]at a8;replace q8:=Gm O q8;replace y:=Gm O y;replace lf:=Za (lf.out.below O);replace hf:=Za (hf.out.below O);replace qm:=Gm O qm;replace qs:=Gm O qs;replace qp:=Gm O qp;replace qr:=Gm O qr;replace o:=Za (o.out.below O);replace u:=Za (u.out.below O);replace C:=Gm O C;replace ef:=Za (ef.out.below O);replace c4:=Za (c4.out.below O)
   have f9:=Gn f8 O;clear f8 O;replace a8:=Za a8;rw[d6]at b2;obtain⟨x0,x1,-⟩:=a8.out.two;go_wp2_with fail;(try rw[d6]);(try rw[i8]);clear i8;replace d6:=Za d6;clear x0 x1;refine(Zte i7 j4 i0 i4 (lo+(H:Int)) w.heap.size (w.heap.size+1) (w.heap.size+1+1) mn mA mk mc mm mB mj md sn sA sk sc sm sB sj sd sg mq sq l8 c4.out qm.out o.out qs.out u.out qp.out (hE.out.z _ Gk Gk).1 hE.out.sm (hE.out.z _ Gk Gk).2.1 (hE.out.z _ Gk Gk).2.2 hE.out.ss).mono ?_;rintro e m9 ⟨rfl,f⟩;replace q8:=Gm f q8;replace y:=Gm f y;replace lf:=Za (lf.out.below f);replace hf:=Za (hf.out.below f);replace qm:=Gm f qm;replace qs:=Gm f qs;replace qp:=Gm f qp;replace qr:=Gm f qr;replace o:=Za (o.out.below f);replace u:=Za (u.out.below f);replace C:=Gm f C;replace ef:=Za (ef.out.below f);replace c4:=Za (c4.out.below f);replace a8:=Gm f a8;have e1:=Gn f9 f;clear f9 f;by_cases hbe:lo+(H:Int)<=M
   case pos =>
    have t1:Zgy sg mq sq (lo+(H:Int))=true:=(hE.out.low _ Gk).2 hbe;rw[t1];clear t1;obtain⟨x0,x1,-⟩:=a8.out.two;obtain⟨n0,i6,h0,e4,c0,b4,-⟩:=Zar i7 j4 i0 i4 e1.out (show w.heap.size<=g8 by have:=n8.out;have:=I.out;have:=a4.out;have:=b2.out;omega) q8.out;have a9:=Za (b4 _ _ _ Ga y.out);have lfz:=Za (c0 _ _ _ _ _ lf.out);have b5:=Za (c0 _ _ _ _ _ hf.out);have qmz:=Za (b4 _ _ _ Ga qm.out);have qsz:=Za (b4 _ _ _ Ga qs.out);have qpz:=Za (b4 _ _ _ Ga qp.out);have qrz:=Za (b4 _ _ _ Ga qr.out);have V:=Za (Fr.keep o.out c0);have Y:=Za (Fr.keep u.out c0);have d0:=Za (b4 _ _ _ Ga C.out);have efz:=Za (c0 _ _ _ _ _ ef.out);have f0:=Za (c0 _ _ _ _ _ c4.out);have d3:=Za (b4 _ _ _ Ga a8.out);have l0:=Za h0;replace e4:=Za e4;obtain⟨y0,y1,z0,z1⟩:=q8.out.two;go_wp2_with fail;clear x0 x1;(try rw[i6]);clear i6 c0 b4 h0 y0 y1 z0 z1;replace y:=a9;clear a9;replace lf:=lfz;clear lfz;replace hf:=b5;clear b5;replace qm:=qmz;clear qmz;replace qs:=qsz;clear qsz;replace qp:=qpz;clear qpz;replace qr:=qrz;clear qrz;replace o:=V;clear V;replace u:=Y;clear Y;replace C:=d0;clear d0;replace ef:=efz;clear efz;replace c4:=f0;clear f0;replace a8:=d3;clear d3 q8;have q8:=e4;clear e4 e1
    go_roundg (hi-(lo+(H:Int))).toNat
    case measure=>have:=g5.out;omega
    case rel=>exact⟨lo+(H:Int),hi,_,_,_,_,_,_,_,_,Za rfl,hbe,by omega,m6,m5,q8,y,c4,hf,qm,qs,qp,qr,o,u,l0⟩
   have t1:Zgy sg mq sq (lo+(H:Int))=false:=by
    cases h9:Zgy sg mq sq (lo+(H:Int))with
    | false=>rfl
    | true=>exact absurd ((hE.out.low _ Gk).1 h9) hbe
   rw[t1];clear t1;obtain⟨x0,x1,-⟩:=a8.out.two;obtain⟨n4,i5,h3,e7,c3,b3,-⟩:=Zar i7 j4 i0 i4 e1.out (show w.heap.size<=g9 by have:=n8.out;have:=I.out;have:=a4.out;have:=b2.out;omega) y.out;have c8:=Za (b3 _ _ _ Ga q8.out);have lfz:=Za (c3 _ _ _ _ _ lf.out);have b5:=Za (c3 _ _ _ _ _ hf.out);have qmz:=Za (b3 _ _ _ Ga qm.out);have qsz:=Za (b3 _ _ _ Ga qs.out);have qpz:=Za (b3 _ _ _ Ga qp.out);have qrz:=Za (b3 _ _ _ Ga qr.out);have V:=Za (Fr.keep o.out c3);have Y:=Za (Fr.keep u.out c3);have d0:=Za (b3 _ _ _ Ga C.out);have efz:=Za (c3 _ _ _ _ _ ef.out);have f0:=Za (c3 _ _ _ _ _ c4.out);have d3:=Za (b3 _ _ _ Ga a8.out);have k9:=Za h3;replace e7:=Za e7;obtain⟨y0,y1,z0,z1⟩:=y.out.two;go_wp2_with fail;clear x0 x1;(try rw[i5]);clear i5 c3 b3 h3 y0 y1 z0 z1;replace q8:=c8;clear c8;replace lf:=lfz;clear lfz;replace hf:=b5;clear b5;replace qm:=qmz;clear qmz;replace qs:=qsz;clear qsz;replace qp:=qpz;clear qpz;replace qr:=qrz;clear qrz;replace o:=V;clear V;replace u:=Y;clear Y;replace C:=d0;clear d0;replace ef:=efz;clear efz;replace c4:=f0;clear f0;replace a8:=d3;clear d3 y;have y:=e7;clear e7 e1
   go_roundg ((lo+(H:Int))-lo).toNat
   case measure=>have:=g5.out;omega
   case rel=>exact⟨lo,lo+(H:Int),_,_,_,_,_,_,_,_,Za rfl,k0,j8,by omega,by omega,q8,y,lf,c4,qm,qs,qp,qr,o,u,k9⟩
structure RootZ (s r up:Int):Prop where
 r0:0<=r
 lo:r*r<=s
 hi:s<(r+1)*(r+1)
 up:up=if r*r<s then r+1 else r
theorem RootZ.le{s r up x:Int}(h:RootZ s r up):(x<=0 \/ x*x<=s) ↔ x<=r:=by
 obtain⟨h0,h1,h2,-⟩:=h;constructor
 ·rintro(h3|h3)
  omega;apply Classical.byContradiction;intro h4;have h5:(r+1)*(r+1)<=x*x:=Qd Gk Gk Gk Gk;omega
 intro h3;rcases Int.lt_or_le 0 x with h4|h4
 ·have h5:x*x<=r*r:=Qd h3 h3 Gk h0
  exact .inr Gk
 exact .inl h4
theorem RootZ.ge{s r up x:Int}(h:RootZ s r up):(x<=0/\s<=x*x) ↔ x <= -up:=by
 obtain⟨h0,h1,h2,h3⟩:=h;have hx:x*x=(-x)*(-x):=by rw[Int.neg_mul_neg]
 rw[hx];by_cases h4:r*r<s
 ·rw[Gx h4]at h3
  constructor
  ·rintro⟨h5,h6⟩
   apply Classical.byContradiction;intro h7;have h8:(-x)*(-x)<=r*r:=Qd Gk Gk Gk h0;omega
  intro h5;have h8:(r+1)*(r+1)<=(-x)*(-x):=Qd Gk Gk Gk Gk;exact⟨by omega,by omega⟩
 rw[Gw h4]at h3;constructor
 ·rintro⟨h5,h6⟩
  apply Classical.byContradiction;intro h7;have h8:(-x+1)*(-x+1)<=r*r:=Qd Gk Gk Gk h0;have h9:(-x+1)*(-x+1)=(-x)*(-x)+2*(-x)+1:=by grind
  omega
 intro h5;have h8:r*r<=(-x)*(-x):=Qd Gk Gk h0 Gk;exact⟨by omega,by omega⟩
theorem Zwq{a d w:Int}(hd:0<d):w<=Qp a d ↔ w*d<=a:=by
 rw[Qn _ Gk];exact Qg hd
theorem Zji{a b c:Rat}(h:0<c):c*a<=c*b ↔ a<=b:=⟨λh1=>Rat.le_of_mul_le_mul_left h1 h,λh1=>Rat.mul_le_mul_of_nonneg_left h1 (Rat.le_of_lt h)⟩
section
variable{mean sq:Rat}{m n s r up w:Int}
theorem Zlg(hm:0<m)(hn:(n:Rat)=2*mean*m)(hs:(s:Rat)=4*sq*m*m):((w:Rat)-mean<=0 ↔ 2*m*w-n<=0)/\(((w:Rat)-mean)*((w:Rat)-mean)<=sq ↔ (2*m*w-n)*(2*m*w-n)<=s)/\(sq<=((w:Rat)-mean)*((w:Rat)-mean) ↔ s<=(2*m*w-n)*(2*m*w-n)):=by
 have e:(0:Rat)<(m:Rat):=by exact_mod_cast hm
 have e1:((2*m*w-n:Int):Rat)=2*(m:Rat)*((w:Rat)-mean):=by
  rw[Rat.intCast_sub,Qb,Qb,hn];have:((2:Int):Rat)=2:=rfl;rw[this];grind
 have h:(0:Rat)<2*(m:Rat):=Qm Gj e;have f:(0:Rat)<4*(m:Rat)*(m:Rat):=Qm (Qm Gj e) e
 have e2:(((2*m*w-n)*(2*m*w-n):Int):Rat)=4*(m:Rat)*(m:Rat)*(((w:Rat)-mean)*((w:Rat)-mean)):=by
  rw[Qb,e1];grind
 have e3:(s:Rat)=4*(m:Rat)*(m:Rat)*sq:=by rw[hs];grind
 refine⟨?_,?_,?_⟩
 ·have h1:((2*m*w-n:Int):Rat)<=((0:Int):Rat) ↔ 2*m*w-n<=0:=Qh
  rw[<- h1,e1];have:((0:Int):Rat)=2*(m:Rat)*0:=by show (0:Rat)=_;grind
  rw[this];exact(Zji h).symm
 ·have h1:(((2*m*w-n)*(2*m*w-n):Int):Rat)<=(s:Rat) ↔ _:=Qh
  rw[<- h1,e2,e3];exact(Zji f).symm
 have h1:(s:Rat)<=(((2*m*w-n)*(2*m*w-n):Int):Rat) ↔ _:=Qh;rw[<- h1,e2,e3];exact(Zji f).symm
theorem Zxp(hm:0<m)(hn:(n:Rat)=2*mean*m)(hs:(s:Rat)=4*sq*m*m)(hr:RootZ s r up):((w:Rat)-mean<=0 \/ ((w:Rat)-mean)*((w:Rat)-mean)<=sq) ↔ w<=Qp (n+r) (m+m):=by
 obtain⟨h1,h2,-⟩:=Zlg (w:=w) hm hn hs;rw[h1,h2,hr.le,Zwq Gk];have:w*(m+m)=2*m*w:=by grind
 omega
theorem Zvg(hm:0<m)(hn:(n:Rat)=2*mean*m)(hs:(s:Rat)=4*sq*m*m)(hr:RootZ s r up):((w:Rat)-mean<=0/\sq<=((w:Rat)-mean)*((w:Rat)-mean)) ↔ w<=Qp (n-up) (m+m):=by
 obtain⟨h1,-,h3⟩:=Zlg (w:=w) hm hn hs;rw[h1,h3,hr.ge,Zwq Gk];have:w*(m+m)=2*m*w:=by grind
 omega
end
def axH:Rat:=Rat.divInt 1 2
def Zbi(a d:Rat):Rat:=(a+d)*axH
def Ze9(a d:Rat):Rat:=(a-d)*axH
def Zi5(a b d:Rat):Rat:=Ze9 a d*Ze9 a d+b*b
def axT(a d:Rat):Rat:=a+d
def axD(a d:Rat):Rat:=a-d
def axQ(a b d:Rat):Rat:=axD a d*axD a d+4*(b*b)
def axM(a b d:Rat):Int:=((axT a d).den:Int)*((axQ a b d).den:Int)
def axN(a b d:Rat):Int:=(axT a d).num*((axQ a b d).den:Int)
def axS(a b d:Rat):Int:=(axQ a b d).num*((axQ a b d).den:Int)*((axT a d).den:Int)*((axT a d).den:Int)
noncomputable def axR (a b d:Rat):Nat:=rootN (axS a b d).natAbs
noncomputable def axUp (a b d:Rat):Int:=if (axR a b d:Int)*(axR a b d:Int)<axS a b d then (axR a b d:Int)+1 else (axR a b d:Int)
noncomputable def axLong (a b d:Rat):Int:=Qp (axN a b d+(axR a b d:Int)) (axM a b d+axM a b d)
noncomputable def axShort (a b d:Rat):Int:=Qp (axN a b d-axUp a b d) (axM a b d+axM a b d)
theorem Zwn(z:Nat):IsRoot z (rootN z):=by
 have h:∃ r,IsRoot z r:=by
  induction z with
  | zero=>exact⟨0,by unfold IsRoot;omega⟩
  | succ z ih =>
   obtain⟨r,h1,h2⟩:=ih;by_cases h3:z+1<(r+1)*(r+1);exact⟨r,by omega,h3⟩;refine⟨r+1,by omega,?_⟩;have e:(r+1+1)*(r+1+1)=(r+1)*(r+1)+2*r+3:=by grind
   omega
 obtain⟨r,hr⟩:=h;rw[Ziz hr];exact hr
theorem Zqv:2*axH=1:=by decide +kernel
theorem Zwk(q:Rat):(q.num:Rat)=q*((q.den:Nat):Rat):=by
 have h:Rat.divInt q.num q.den=q:=Rat.num_divInt_den q;rw[Rat.divInt_eq_div]at h;have h0:((q.den:Nat):Rat)≠0:=by exact_mod_cast q.den_nz
 have e:(((q.den:Nat):Int):Rat)=((q.den:Nat):Rat):=Qk _;rw[e]at h
 have h1:(q.num:Rat)/((q.den:Nat):Rat)*((q.den:Nat):Rat)=(q.num:Rat):=by
  rw[Rat.div_def,Rat.mul_assoc,Rat.inv_mul_cancel _ h0,Rat.mul_one]
 rw[h]at h1;exact h1.symm
section
variable{a b d:Rat}
theorem Zl0:0<axM a b d:=by
 unfold axM;have h1:=(axT a d).den_pos;have h2:=(axQ a b d).den_pos;exact Int.mul_pos Gk Gk
theorem Z01:((axN a b d:Int):Rat)=2*Zbi a d*(axM a b d:Int):=by
 unfold axN axM Zbi;rw[Qb,Qb,Zwk]
 have e:2*((a+d)*axH)=axT a d:=by
  have:=Zqv;unfold axT;grind
 rw[e];simp only[Qk]
 grind
theorem axQ_eq:axQ a b d=4*Zi5 a b d:=by
 have h:=Zqv;unfold axQ Zi5 Ze9 axD;have e:4*((a-d)*axH*((a-d)*axH))=(a-d)*(a-d)*((2*axH)*(2*axH)):=by grind
 have e2:4*((a-d)*axH*((a-d)*axH)+b*b)=4*((a-d)*axH*((a-d)*axH))+4*(b*b):=by grind
 rw[e2,e,h];grind
theorem Zzv:((axS a b d:Int):Rat)=4*Zi5 a b d*(axM a b d:Int)*(axM a b d:Int):=by
 unfold axS axM;rw[Qb,Qb,Qb,Qb,Zwk,axQ_eq];simp only[Qk]
 grind
theorem Z0z(x:Rat):0<=x*x:=by
 rcases Rat.le_total (a:=0) (b:=x)with h|h;exact Qr h h;have e:x*x=(-x)*(-x):=by grind
 have h2:0 <= -x:=Rat.neg_le_neg h |> λh3=>by rw[Rat.neg_zero]at h3;exact h3
 rw[e];exact Qr h2 h2
theorem axQ_nn:0<=axQ a b d:=by
 unfold axQ;have h1:=Z0z (axD a d);have h2:=Z0z b;have h3:(0:Rat)<=4*(b*b):=Qr Gj h2
 grind
theorem axS_nn:0<=axS a b d:=by
 unfold axS;have h:=Rat.num_nonneg.2 (axQ_nn (a:=a) (b:=b) (d:=d));exact Qs (Qs (Qs h Gk) Gk) Gk
theorem Zwh:RootZ (axS a b d) (axR a b d) (axUp a b d):=by
 obtain⟨h1,h2⟩:=Zwn (axS a b d).natAbs;have h0:=axS_nn (a:=a) (b:=b) (d:=d);have e:((axS a b d).natAbs:Int)=axS a b d:=Gk;refine⟨by omega,?_,?_,rfl⟩;rw[<- e];unfold axR;exact_mod_cast h1;rw[<- e];unfold axR;exact_mod_cast h2
theorem ax_long{z:Int}:((z:Rat)-Zbi a d<=0 \/ ((z:Rat)-Zbi a d)*((z:Rat)-Zbi a d)<=Zi5 a b d) ↔ z<=axLong a b d:=
 Zxp Zl0 Z01 Zzv Zwh
theorem ax_short{z:Int}:((z:Rat)-Zbi a d<=0/\Zi5 a b d<=((z:Rat)-Zbi a d)*((z:Rat)-Zbi a d)) ↔ z<=axShort a b d:=
 Zvg Zl0 Z01 Zzv Zwh
theorem ax_low1{z:Int}:Zgy 1 (Zbi a d) (Zi5 a b d) z=true ↔ z<=axLong a b d:=by
 unfold Zgy;rw[Gx Gj,Bool.or_eq_true,decide_eq_true_eq,decide_eq_true_eq];exact ax_long
theorem ax_low2{z:Int}:Zgy (-1) (Zbi a d) (Zi5 a b d) z=true ↔ z<=axShort a b d:=by
 unfold Zgy;rw[Gw Gj,Bool.and_eq_true,decide_eq_true_eq,decide_eq_true_eq];exact ax_short
theorem Zzc(ha:0<a)(hd:0<d)(hp:0<a*d-b*b):0<=axShort a b d:=by
 have hH:0<axH:=GY;have hm:0<Zbi a d:=Qm (by grind) hH;refine ax_short.1 ⟨?_,?_⟩
 ·show (0:Rat)-Zbi a d<=0
  grind
 have h:=Zqv
 have e:((0:Int):Rat)-Zbi a d=-Zbi a d:=by
  show (0:Rat)-Zbi a d=_
  grind
 rw[e]
 have e2:-Zbi a d * -Zbi a d=Zi5 a b d+(a*d-b*b):=by
  unfold Zbi Zi5 Ze9;have e3:-((a+d)*axH) * -((a+d)*axH)=(a-d)*axH*((a-d)*axH)+a*d*((2*axH)*(2*axH)):=by grind
  rw[e3,h];grind
 rw[e2];grind
theorem Z1e(ha:0<a)(hd:0<d):0<=axLong a b d:=by
 have hH:0<axH:=GY;have hm:0<Zbi a d:=Qm (by grind) hH;refine ax_long.1 (.inl ?_);show (0:Rat)-Zbi a d<=0
 grind
end
section
variable{rs:List RX}{js:List (List Int)}{n:Nat}
end
theorem SmN.intC(x:Int)(k:Nat)(h:x.natAbs<=pw k):SmN (k+1) 1 (x:Rat):=by
 refine⟨?_,?_⟩
 ·rw[Rat.num_intCast]
  exact Qv h (Zdj Gk)
 rw[Rat.den_intCast];rw[show (1:Nat)=0+1 by rfl,Za2,Zd4];decide
theorem smH:SmN 1 1 axH:=⟨by decide +kernel,by decide +kernel⟩
theorem sm4:SmN 1 1 (4:Rat):=⟨by decide +kernel,by decide +kernel⟩
section
variable{a b d:Rat}
theorem sz_t(sa:SmN 5 5 a)(sd:SmN 5 5 d):SmN 11 10 (axT a d):=(sa.add sd).mono Gj Gj
theorem sz_d(sa:SmN 5 5 a)(sd:SmN 5 5 d):SmN 11 10 (axD a d):=(sa.sub sd).mono Gj Gj
theorem Zp0(sa:SmN 5 5 a)(sd:SmN 5 5 d):SmN 12 11 (Zbi a d):=(sz_t sa sd).mulN smH
theorem Zns(sa:SmN 5 5 a)(sd:SmN 5 5 d):SmN 12 11 (Ze9 a d):=(sz_d sa sd).mulN smH
theorem sz_sq(sa:SmN 5 5 a)(sb:SmN 5 5 b)(sd:SmN 5 5 d):SmN 35 32 (Zi5 a b d):=(((Zns sa sd).mulN (Zns sa sd)).add (sb.mulN sb)).mono Gj Gj
theorem sz_q(sa:SmN 5 5 a)(sb:SmN 5 5 b)(sd:SmN 5 5 d):SmN 34 31 (axQ a b d):=(((sz_d sa sd).mulN (sz_d sa sd)).add (sm4.mulN (sb.mulN sb))).mono Gj Gj
theorem sz_n(sa:SmN 5 5 a)(sb:SmN 5 5 b)(sd:SmN 5 5 d):(axN a b d).natAbs<pw 42:=by
 unfold axN;rw[Ql,Qa,show 42=11+31 from rfl,Zc8];exact Qi (sz_t sa sd).1 (sz_q sa sb sd).2
theorem sz_s0(sa:SmN 5 5 a)(sb:SmN 5 5 b)(sd:SmN 5 5 d):((axQ a b d).num*((axQ a b d).den:Int)).natAbs<pw 65:=by
 rw[Ql,Qa,show 65=34+31 from rfl,Zc8];exact Qi (sz_q sa sb sd).1 (sz_q sa sb sd).2
theorem sz_s1(sa:SmN 5 5 a)(sb:SmN 5 5 b)(sd:SmN 5 5 d):((axQ a b d).num*((axQ a b d).den:Int)*((axT a d).den:Int)).natAbs<pw 75:=by
 rw[Ql,Qa,show 75=65+10 from rfl,Zc8];exact Qi (sz_s0 sa sb sd) (sz_t sa sd).2
theorem sz_s(sa:SmN 5 5 a)(sb:SmN 5 5 b)(sd:SmN 5 5 d):(axS a b d).natAbs<pw 85:=by
 unfold axS;rw[Ql,Qa,show 85=75+10 from rfl,Zc8];exact Qi (sz_s1 sa sb sd) (sz_t sa sd).2
theorem sz_r(sa:SmN 5 5 a)(sb:SmN 5 5 b)(sd:SmN 5 5 d):axR a b d<pw 85:=by
 have h:=(Zwn (axS a b d).natAbs).1;have h1:=sz_s sa sb sd;have h2:axR a b d<=axR a b d*axR a b d:=Nat.le_mul_self _;have h3:axR a b d*axR a b d<=(axS a b d).natAbs:=h;omega
theorem sz_up(sa:SmN 5 5 a)(sb:SmN 5 5 b)(sd:SmN 5 5 d):(axUp a b d).natAbs<=pw 85:=by
 have h:=sz_r sa sb sd;unfold axUp
 split <;> omega
theorem Zv4{x m:Int}(hm:0<m){K:Nat}(hx:x.natAbs<=K):(Qp x m).natAbs<=K:=by
 rw[Qn _ Gk]
 exact Nat.le_trans (by
  rcases Int.le_total 0 x with h|h
  ·have h1:=Int.ediv_nonneg h (by omega:0<=m)
   have h2:=Int.ediv_le_self m h;omega
  have h1:x<=x/m:=by
    rw[Qg hm];have h9:x*m<=x*1:=Int.mul_le_mul_of_nonpos_left h Gk;omega
  have h2:x/m<=0:=by
   apply Classical.byContradiction;intro h3;have h4:=(Qg (a:=1) (b:=x) hm).1 Gk;omega
  omega) hx
theorem Zz6{x y:Int}(hx:x.natAbs<pw 42)(hy:y.natAbs<=pw 85):(x+y).natAbs<=pw 86:=by
 have h1:pw 42<=pw 85:=Zbm Gj;have h2:pw 86=4294967296*pw 85:=by rw[Za2]
 have h3:=Zb4 85;have h4:=Int.natAbs_add_le x y;rw[h2];generalize pw 85=P at *;generalize pw 42=Q at *;omega
theorem Zv5(sa:SmN 5 5 a)(sb:SmN 5 5 b)(sd:SmN 5 5 d):(axLong a b d).natAbs<=pw 86:=by
 have hm:=Zl0 (a:=a) (b:=b) (d:=d);exact Zv4 Gk (Zz6 (sz_n sa sb sd) (by have:=sz_r sa sb sd;omega))
theorem Zrb(sa:SmN 5 5 a)(sb:SmN 5 5 b)(sd:SmN 5 5 d):(axShort a b d).natAbs<=pw 86:=by
 have hm:=Zl0 (a:=a) (b:=b) (d:=d);unfold axShort;rw[Int.sub_eq_add_neg];exact Zv4 Gk (Zz6 (sz_n sa sb sd) (by have:=sz_up sa sb sd;rw[Int.natAbs_neg];exact this))
theorem big_M{M:Int}(h:M.natAbs<=pw 86):M<((pw 313:Nat):Int):=by
 have h3:pw 86<pw 313:=Zdj Gj;generalize pw 313=P at *;generalize pw 86=Q at *;omega
theorem sz_z{M z:Int}(h:M.natAbs<=pw 86)(h1:-1<=z)(h2:z<=2*M+2):SmN 88 1 (z:Rat):=by
 refine SmN.intC z 87 ?_;have h3:pw 87=4294967296*pw 86:=by rw[Za2]
 have h4:=Zb4 86;rw[h3];generalize pw 86=P at *;omega
theorem ax_z(sa:SmN 5 5 a)(sd:SmN 5 5 d){M z:Int}(h:M.natAbs<=pw 86)(h1:-1<=z)(h2:z<=2*M+2):Sm (z:Rat)/\Sm ((z:Rat)-Zbi a d)/\Sm (((z:Rat)-Zbi a d)*((z:Rat)-Zbi a d)):=by
 have k1:=sz_z h h1 h2;have k2:SmN 100 12 ((z:Rat)-Zbi a d):=(k1.sub (Zp0 sa sd)).mono Gj Gj;exact⟨k1.sm Gj Gj,k2.sm Gj Gj,(k2.mulN k2).sm Gj Gj⟩
theorem Zuj(sa:SmN 5 5 a)(sb:SmN 5 5 b)(sd:SmN 5 5 d)(ha:0<a)(hd:0<d):EdgeP 1 (Zbi a d) (Zi5 a b d) (axLong a b d):=
 ⟨λ_ _=>ax_low1,Int.le_trans Gj (Z1e ha hd),big_M (Zv5 sa sb sd),(Zp0 sa sd).sm Gj Gj,(sz_sq sa sb sd).sm Gj Gj,λ_ h1 h2=>ax_z sa sd (Zv5 sa sb sd) h1 h2⟩
theorem Zsr(sa:SmN 5 5 a)(sb:SmN 5 5 b)(sd:SmN 5 5 d)(ha:0<a)(hd:0<d)(hp:0<a*d-b*b):EdgeP (-1) (Zbi a d) (Zi5 a b d) (axShort a b d):=
 ⟨λ_ _=>ax_low2,Int.le_trans Gj (Zzc ha hd hp),big_M (Zrb sa sb sd),(Zp0 sa sd).sm Gj Gj,(sz_sq sa sb sd).sm Gj Gj,λ_ h1 h2=>ax_z sa sd (Zrb sa sb sd) h1 h2⟩
end
def Zh1(rs:List RX)(es:List FX):Int:=if Zbg rs≠0 then Zbg rs else if es.length=rs.length/\Zc0 es=true then 0 else 8
def Zq1(es:List FX)(i:Nat):Rat:=(es.map FX.q)[i]?.getD 0
def Zo5(rs:List RX)(es:List FX):Rat:=bil (Zi (qM rs)) rs.length (Zq1 es) (Zq1 es)
def DistPost(rs:List RX)(es:List FX)(w:World)(e:Ending)(w':World):Prop:=
 Below w.heap.size w w'/\((Zh1 rs es=0/\∃ na A n c nb B m d,e=.returned (.tuple #[.agg #[.bool na,.slice A n c,.bool nb,.slice B m d],.int .i64 0])/\Fr w' na A n c nb B m d (Zo5 rs es)) \/
  (Zh1 rs es≠0/\e=.returned (.tuple #[.agg #[.bool false,.slice none 0 0,.bool false,.slice none 0 0],.int .i64 (Zh1 rs es)])))
theorem DistPost.fall{rs:List RX}{es:List FX}{w w':World}{E:Int}(hb:Below w.heap.size w w')(h:Zh1 rs es=E)(h0:E≠0):DistPost rs es w (.returned (.tuple #[.agg #[.bool false,.slice none 0 0,.bool false,.slice none 0 0],.int .i64 E])) w':=by
 subst h;exact⟨hb,.inr ⟨h0,rfl⟩⟩
section
variable{rs:List RX}{es:List FX}{E:Int}
theorem Zpc(h:Zbg rs=E)(h0:E≠0):Zh1 rs es=E:=by subst h;exact Gx h0
theorem Zkq(h:Zbg rs=0)(hb:¬ (es.length=rs.length/\Zc0 es=true)):Zh1 rs es=8:=by
 unfold Zh1;rw[Gw (by simp[h])];exact Gw hb
theorem Zrl(h:Zbg rs=0)(hb:es.length=rs.length/\Zc0 es=true):Zh1 rs es=0:=by
 unfold Zh1;rw[Gw (by simp[h])];exact Gx hb
end
theorem Zvq(na:Bool)(A:Option Addr)(n c:Nat)(nb:Bool)(B:Option Addr)(m d:Nat)(w:World):(Instr.field 73 (.agg #[.bool na,.slice A n c,.bool nb,.slice B m d]) 0).run Tryz.prog w=.ok (.agg #[.bool na,.slice A n c,.bool nb,.slice B m d]) w:=by kernel_rfl
theorem EM{G:Prop}(h:G:=by
 obtain⟨U,hU,eo,q3,-,kq,-⟩:=Za1 8 eK (Nat.le_succ _) (hk _ _ _ (q1.out));rw[hV,hU]at hw;subst hw;have r4:=q3.cell 0;simp at r4;obtain⟨d0,d1,d2,d3,-⟩:=(kq _ _ _ Gk (hk _ _ _ (q0.out))).four;exact⟨.tuple #[.agg #[.bool false,.slice none 0 0,.bool false,.slice none 0 0],.int .i64 8],by simp[results,Tryz.results25,go_sem,r4,d0,d1,d2,d3],DistPost.fall eo dF.out (by first|decide|assumption|exact gS.out)⟩):G:=h
theorem Zod(A V:Option Addr)(n c nv cv:Nat)(rs:List RX)(es:List FX)(w:World)(h:MXL w A n c rs)(hF:FacC rs)(hv:FXL w V nv cv es)(hS:Zh1 rs es=0->Zsl (Zi (qM rs)) rs.length (Zq1 es)) :
    Calls Tryz.prog 25 #[.slice A n c,.slice V nv cv] w (DistPost rs es w):=by
 have a0:=Za h.1;have c0:=Za hv.1;have e5:=h.2.1;have c5:=h.2.2.1;have d9:=hv.2.1;have b9:=hv.2.2.1;unfold maxLen at c5 b9;obtain⟨W0,b8,y,⟨q0,q1⟩,s0⟩:=Zdl w 41 #[.bool false,.slice none 0 0,.bool false,.slice none 0 0] 26 #[.int .i64 0];have hC:=Za (Zk3 A n c rs W0 (h.below y) hF);have hH:=Za (h.below y);have C:=Za (hv.below y);replace hS:=Za hS;replace q0:=Za q0;replace q1:=Za q1;replace y:=Za y;clear h hv hF;replace s0:=Za s0
 go_enter_defers Tryz.func25,Tryz.ntmps25
 go_wp2_with fail;(try rw[b8]);clear b8;refine hC.out.mono ?_;rintro e w1 ⟨O,⟨h0,v1,v2,L0,rfl,b2⟩|⟨h0,rfl⟩⟩
 case inr =>
  have a1:=Gs y.out O;have k0:=Zc O q0.out;have k1:=Zc O q1.out;obtain⟨E,hE⟩:=Gz (Zbg rs);rw[hE]at h0 ⊢;have gS:=Za h0;have dF:=Zpc (es:=es) hE h0;replace hE:=Za hE;go_wp2_with fail;refine leaves_cons (f:=39) (args:=#[.pointer (some ⟨w.heap.size+1,0,none⟩)]) Gh Gc ?_;have e0:=(k1).cell 0;simp at e0;refine(Zb8 ⟨w.heap.size+1,0,none⟩ E 0 _ e0 ((k1).frozen 0)).mono ?_;rintro e u' w'' ⟨rfl,rfl,hw⟩;obtain⟨V,hV,eK,-,-,hk,sV⟩:=Zp 117 #[.int .i64 E] (a1) ((a1).size);obtain⟨U,hU,eo,q3,-,kq,-⟩:=Za1 E eK (Qw _) (hk _ _ _ (k1));rw[hV,hU]at hw;subst hw;have r4:=q3.cell 0;simp at r4;obtain⟨d0,d1,d2,d3,-⟩:=(kq _ _ _ Gk (hk _ _ _ (k0))).four;exact⟨.tuple #[.agg #[.bool false,.slice none 0 0,.bool false,.slice none 0 0],.int .i64 E],by simp[results,Tryz.results25,go_sem,r4,d0,d1,d2,d3],DistPost.fall eo dF (by first|decide|assumption|exact gS.out)⟩
 obtain⟨A1,c1,e1,o⟩:=b2.1.mflA;obtain⟨A2,c2,e2,u⟩:=b2.2.1.fl;rw[Zfx]at e1 o;rw[Zjw]at e2 u;rw[a0.out]at e1 o e2 u;subst e1;subst e2;have c4:=o.2.1;have a6:=o.2.2.1;have b3:=u.cap;unfold maxLen at a6 b3;obtain⟨b7,d4,a9⟩:=Zi4 h0;have c7:n<=6:=by rw[<- a0.out];exact b7.facts.2.1
 rw[a0.out]at a9;have hp:=Za a9;replace o:=Za o;replace u:=Za u;replace h0:=Za h0;have a1:=Gn y O;replace q0:=Gm O q0;replace q1:=Gm O q1;replace C:=Za (C.out.below O);clear b2 b7 d4 a9 hC hH y O L0;obtain⟨g1,Y⟩:=Gz w1.heap.size;obtain⟨V3,a7,q5,T⟩:=Zaw (w:=w1) 99 #[.slice A1 n c1,.slice A2 n c2];rw[Y]at q5;replace o:=Za (o.out.below T);replace u:=Za (u.out.below T);replace q0:=Gm T q0;replace q1:=Gm T q1;replace C:=Za (C.out.below T);have a3:=Gn a1 T;clear a1 T;replace q5:=Za q5;by_cases a2:nv=n
 case neg =>
  have t1:((nv:Int) == (n:Int))=false:=by simp;omega
  have e4:decide ((nv:Int)=(n:Int))=false:=Gu Gk;have d8:decide (nv=n)=false:=Gu a2;have dF:=Za (Zkq (es:=es) h0.out (λhh=>a2 (by rw[<- c0.out,<- a0.out];exact hh.1)));replace a2:=Za a2;go_wp2_with fail;(try rw[Y]);(try rw[a7]);clear a7;replace Y:=Za Y;refine(Zbl 8 V3).mono ?_;rintro e w6 ⟨rfl,rfl⟩;go_wp2_with fail;refine leaves_cons (f:=39) (args:=#[.pointer (some ⟨w.heap.size+1,0,none⟩)]) Gh Gc ?_;have e0:=(q1.out).cell 0;simp at e0;refine(Zb8 ⟨w.heap.size+1,0,none⟩ 8 0 _ e0 ((q1.out).frozen 0)).mono ?_;rintro e u' w'' ⟨rfl,rfl,hw⟩;obtain⟨V,hV,eK,-,-,hk,sV⟩:=Zp 117 #[.int .i64 8] (a3.out) ((a3.out).size);exact EM
 subst a2;have t1:((nv:Int) == (nv:Int))=true:=Gh;obtain⟨b,hb⟩:=Gz (Zc0 es);have c9:=Za (λW1 (hx:FXL W1 V nv cv es)=>Zle V nv cv es W1 hx b hb);replace hb:=Za hb;go_wp2_with fail;(try rw[Y]);(try rw[a7]);clear a7;replace Y:=Za Y;refine(c9.out V3 C.out).mono ?_;rintro e w8 ⟨rfl,J⟩;replace o:=Za (o.out.below J);replace u:=Za (u.out.below J);replace q0:=Gm J q0;replace q1:=Gm J q1;replace C:=Za (C.out.below J);replace q5:=Gm J q5;have a4:=Gn a3 J;clear a3 J;cases b with
 | false =>
  have dF:=Za (Zkq (es:=es) h0.out (λhh=>by rw[hb.out]at hh;exact absurd hh.2 Gj));go_wp2_with fail;refine(Zbl 8 w8).mono ?_;rintro e w6 ⟨rfl,rfl⟩;go_wp2_with fail;refine leaves_cons (f:=39) (args:=#[.pointer (some ⟨w.heap.size+1,0,none⟩)]) Gh Gc ?_;have e0:=(q1.out).cell 0;simp at e0;refine(Zb8 ⟨w.heap.size+1,0,none⟩ 8 0 _ e0 ((q1.out).frozen 0)).mono ?_;rintro e u' w'' ⟨rfl,rfl,hw⟩;obtain⟨V,hV,eK,-,-,hk,sV⟩:=Zp 117 #[.int .i64 8] (a4.out) ((a4.out).size);exact EM
 | true =>
  have dF:=Za (Zrl (es:=es) h0.out ⟨by rw[c0.out,a0.out],hb.out⟩);have d7:=Za (hS.out dF.out);have a5:=Za (C.out.fl (Ztl hb.out));clear hS C;go_wp2_with fail;refine(Zcj 8 w8).mono ?_;rintro e w6 ⟨rfl,rfl⟩;have c3:=q5.out.cell 0;have b4:=q5.out.cell 1;simp at c3 b4;have d6:Hid (Zsl (Zi (qM rs)) nv (λi:Nat=>(es.map FX.q)[i]?.getD 0)):=Za (by have h9:=d7.out;rw[a0.out]at h9;exact h9);go_wp2_with fail;clear c3 b4;refine(Zzr A1 A2 V nv c1 c2 cv (Zi (qM rs)) (es.map FX.q) w6 c7 o.out u.out a5.out hp.out d6.out).mono ?_;rintro e e6 ⟨I,dn,dA,dk,dc,dm,dB,dj,dd,rfl,df⟩;replace o:=Za (o.out.below I);replace u:=Za (u.out.below I);replace q0:=Gm I q0;replace q1:=Gm I q1;replace q5:=Gm I q5;replace a5:=Za (a5.out.below I);have b6:=Gn a4 I;clear a4 I;replace df:=Za df;obtain⟨x0,x1,x2,x3,f0,f1,f2,f3⟩:=q0.out.four;obtain⟨W5,c6,c8,q5,kW,kB,s5⟩:=Z7 dn dA dk dc dm dB dj dd b6.out (Qq _) q0.out;have b0:=kB _ _ _ Gk q1.out
  have a8:Hid (Fr W5 dn dA dk dc dm dB dj dd (Zo5 rs es)):=Za (by
   have h9:Fr W5 dn dA dk dc dm dB dj dd (bil (Zi (qM rs)) nv (Zq1 es) (Zq1 es)):=⟨kW _ _ _ _ _ df.out.1,kW _ _ _ _ _ df.out.2⟩;unfold Zo5;rw[a0.out];exact h9)
  have e0:=b0.cell 0;have z0:=b0.frozen 0;simp at e0;obtain⟨U,hU,eo,q3,b1,b5,-⟩:=Za1 0 c8 (Qw _) b0;have r4:=q3.cell 0;simp at r4;obtain⟨y0,y1,y2,y3,-⟩:=(b5 _ _ _ Gk q5).four;have d5:Hid (Fr U dn dA dk dc dm dB dj dd (Zo5 rs es)):=Za ⟨b1 _ _ _ _ _ a8.out.1,b1 _ _ _ _ _ a8.out.2⟩;clear kW kB s5 b1 b5 df a8 a5 o u;have e3:=Zvq dn dA dk dc dm dB dj dd;go_wp2_with fail;(try rw[c6]);(try rw[hU]);refine leaves_cons (f:=39) (args:=#[.pointer (some ⟨w.heap.size+1,0,none⟩)]) Gh Gc ?_;refine(Zfn _ _).mono ?_;rintro e u' w'' ⟨rfl,rfl,rfl⟩;exact⟨.tuple #[.agg #[.bool dn,.slice dA dk dc,.bool dm,.slice dB dj dd],.int .i64 0],by simp[results,Tryz.results25,go_sem,r4,y0,y1,y2,y3],eo,.inl ⟨dF.out,_,_,_,_,_,_,_,_,rfl,d5.out⟩⟩
def exR(A B:Option Addr):List RI:=[⟨A,2,2,[1,0]⟩,⟨B,2,2,[0,2]⟩]
def exW:List Int:=[1000000000000,1000000000000]
def exQ:List (List Rat):=[[1000000,0],[0,250000]]
section
variable{A B:Option Addr}
theorem Z05:Za8 (exR A B) exW 2 0 0=1000000000000/\Za8 (exR A B) exW 2 0 1=0/\Za8 (exR A B) exW 2 1 0=0/\Za8 (exR A B) exW 2 1 1=4000000000000:=by
 have d1:Zce exW (Za3 (exR A B) 0) (Za3 (exR A B) 0) 2=1000000000000:=rfl;have d2:Zce exW (Za3 (exR A B) 0) (Za3 (exR A B) 1) 2=0:=rfl;have d3:Zce exW (Za3 (exR A B) 1) (Za3 (exR A B) 0) 2=0:=rfl;have d4:Zce exW (Za3 (exR A B) 1) (Za3 (exR A B) 1) 2=4000000000000:=rfl;unfold Za8;rw[d1,d2,d3,d4];exact⟨rfl,rfl,rfl,rfl⟩
theorem ex_n0:n0I (exR A B)=2:=rfl
theorem ex_long:(exR A B).any RI.long6=false:=rfl
theorem ex_sys:Zcx (exR A B) (List.replicate (min (exR A B).length 200) 0) exW=0:=by
 show Zcx (exR A B) [0,0] exW=0;rfl
theorem ex_det:Zap 2 (Za8 (exR A B) exW 2)≠0:=by
 obtain⟨e1,e2,e3,e4⟩:=Z05 (A:=A) (B:=B)
 have e:Zap 2 (Za8 (exR A B) exW 2)=Zap 2 (λi j=>if i=0 then (if j=0 then 1000000000000 else 0)else (if j=0 then 0 else 4000000000000)):=Za4 λi j hi hj=>by
  rcases(show i=0 \/ i=1 by omega)with rfl|rfl <;> rcases(show j=0 \/ j=1 by omega)with rfl|rfl;exact e1;exact e2;exact e3;exact e4
 rw[e];decide +kernel
theorem ex_of:ofE (exR A B) exW=0:=Zu4 ex_long ex_sys ex_det
theorem ex_mod{k:Nat}(hk:k<=300):ModI (exR A B) 2 0 k:=by
 refine⟨λj r _ _ hr=>?_,by omega,by omega,by omega,hk⟩;rcases j with _|_|j;cases hr;exact⟨.inl (show (2:Nat)<=4 from by decide),show (2:Nat)<=15 from by decide⟩;cases hr;exact⟨.inl (show (2:Nat)<=4 from by decide),show (2:Nat)<=15 from by decide⟩;cases hr
theorem ex_ofQ{X:Nat->Nat->Rat}(h:OfP (exR A B) exW 2 2 X):ofQ X 2=exQ:=by
 obtain⟨e1,e2,e3,e4⟩:=Z05 (A:=A) (B:=B);have u:=h.1 0 0 Gj Gj;have f:=h.1 0 1 Gj Gj;have o:=h.1 1 0 Gj Gj;have y:=h.1 1 1 Gj Gj;simp only[Zu,e1,e2,e3,e4]at u f o y
 have J:X 0 2*Zbu=1000000:=by
  have e:(1000000000000:Rat)*X 0 2=1:=by
   have h9:=u;simp at h9
   grind
  have e9:Zbu=1000000*1000000000000:=GY;rw[e9];grind
 have O:X 1 2*Zbu=0:=by
  have e:(4000000000000:Rat)*X 1 2=0:=by
   have h9:=f;simp at h9
   grind
  have e2:X 1 2=0:=by grind
  rw[e2];grind
 have C:X 0 3*Zbu=0:=by
  have e:(1000000000000:Rat)*X 0 3=0:=by
   have h9:=o;simp at h9
   grind
  have e2:X 0 3=0:=by grind
  rw[e2];grind
 have I:X 1 3*Zbu=250000:=by
  have e:(4000000000000:Rat)*X 1 3=1:=by
   have h9:=y;simp at h9
   grind
  have e9:Zbu=250000*4000000000000:=GY;rw[e9];grind
 show [[X 0 2*Zbu,X 0 3*Zbu],[X 1 2*Zbu,X 1 3*Zbu]]=exQ;rw[J,C,O,I];rfl
end
theorem Zq7{rs:List RX}(h:Zes rs=Zir exQ):Zs6 1 rs:=λr hr e he=>by
 have h1:Zn7 r ∈ Zir exQ:=by rw[<- h];exact Qu hr
 have h2:Zlt e ∈ (Zn7 r).2:=Qu he;have h3:∀ x ∈ Zir exQ,∀ y ∈ x.2,y.1<=1:=GY;exact .inl (h3 _ h1 _ h2)
theorem Zqt{rs:List RX}(h:Zes rs=Zir exQ):Zbg rs=0:=by
 have hq:=Zjv h
 have hl:rs.length=2:=by
  have h9:=congrArg List.length h;simpa [Zes,Zir,exQ]using h9
 unfold Zbg;rw[Zl8,Zmq,h,hq,hl];decide +kernel
theorem ex_ent:Zi exQ 0 0=1000000/\Zi exQ 0 1=0/\Zi exQ 1 1=250000:=⟨rfl,rfl,rfl⟩
theorem Zwc:axR 1000000 0 250000=750000:=by
 unfold axR
 exact Ziz (by
  have e:(axS 1000000 0 250000).natAbs=562500000000:=GY;rw[e];exact⟨by decide,by decide⟩)
theorem ex_axes:axLong 1000000 0 250000=1000000/\axShort 1000000 0 250000=250000:=by
 have e1:axN 1000000 0 250000=1250000:=GY;have e2:axM 1000000 0 250000=1:=GY;have e3:axS 1000000 0 250000=562500000000:=GY
 have e4:axUp 1000000 0 250000=750000:=by
  unfold axUp;rw[Zwc,e3];decide
 unfold axLong axShort;rw[Zwc,e1,e2,e4];decide
theorem ex_bil{x:Nat->Rat}(h0:x 0=1000)(h1:x 1=500):bil (Zi exQ) 2 x x=2:=by
 have e:bil (Zi exQ) 2 x x=bil (Zi exQ) 2 (λi=>if i=0 then 1000 else 500) (λi=>if i=0 then 1000 else 500):=by
  have hc:∀ i,i<2->x i=(λi=>if i=0 then (1000:Rat)else 500) i:=λi hi=>by
   rcases(show i=0 \/ i=1 by omega)with rfl|rfl;exact h0;exact h1
  rw[Zo9 hc,Zzu,Zo9 hc]
 rw[e];decide +kernel
theorem LimI.lit7{w:World}{g:Nat}{t:TypeId}{l:List Int}{cs:Array Value}(h:Blk w g t cs)(hc:cs=(l.map (λx=>Value.int .i64 x)).toArray)(hl:∀ x ∈ l,I64 x)(hn:l.length<=1000):LimI w (some ⟨g,0,none⟩) l.length l.length l:=by
 subst hc;refine⟨rfl,Qq _,by unfold maxLen;omega,hl,λ_=>⟨g,0,rfl,λk hk=>?_⟩⟩;rw[Nat.zero_add,h.cell];simp[List.getElem?_eq_getElem hk]
theorem MFL.two7{w:World}{g:Nat}{t:TypeId}{A B:Option Addr}{n c m d:Nat}{p q:List Rat}(h:Blk w g t #[.slice A n c,.slice B m d])(hp:FL w A n c p)(hq:FL w B m d q):MFL w (some ⟨g,0,none⟩) 2 2 [p,q]:=by
 refine⟨rfl,Qq _,by unfold maxLen;omega,λ_=>⟨g,0,rfl,λk r hr=>?_⟩⟩
 match k,hr with
 | 0,hr=>cases hr;exact⟨A,n,c,h.cell 0,hp⟩
 | 1,hr=>cases hr;exact⟨B,m,d,h.cell 1,hq⟩
 | k+2,hr=>simp at hr
theorem MIL.two7{w:World}{g:Nat}{t:TypeId}{a b:RI}(h:Blk w g t #[.slice a.A a.n a.c,.slice b.A b.n b.c])(ha:LimI w a.A a.n a.c a.l)(hb:LimI w b.A b.n b.c b.l):MIL w (some ⟨g,0,none⟩) 2 2 [a,b]:=by
 refine⟨rfl,Qq _,by unfold maxLen;omega,λr hr=>?_,λ_=>⟨g,0,rfl,λk r hr=>?_⟩⟩
 ·simp only[Qt,Qo,or_false]at hr
  rcases hr with rfl|rfl;exact ha;exact hb
 match k,hr with
 | 0,hr=>cases hr;exact h.cell 0
 | 1,hr=>cases hr;exact h.cell 1
 | k+2,hr=>simp at hr
theorem Zhy(w:World):Calls Tryz.prog 37 #[] w λe w'=>∃ A,e=.returned (.slice A 2 2)/\Below w.heap.size w w'/\MFL w' A 2 2 exQ:=by
 have a0:∀ l:List Int,(∀ x ∈ l,x.natAbs<=1000000)->∀ x ∈ l,I64 x:=λl h x hx=>by have:=h x hx;unfold I64;omega
 obtain⟨g1,O⟩:=Gz w.heap.size;obtain⟨V1,Y,qa,I⟩:=Zaw (w:=w) 2 #[.int .i64 1000000,.int .i64 0];have o:=LimI.lit7 (l:=[1000000,0]) qa rfl (a0 _ Gj) Gj;rw[O]at o;go_in;go_wp2_with fail;(try rw[O]);(try rw[Y]);clear Y qa;replace O:=Za O;refine(Zl7 (some ⟨g1,0,none⟩) 2 2 [1000000,0] V1 o Gj).mono ?_;rintro e w2 ⟨v2,rfl,a4,a3⟩;have U:=Gs I a4;obtain⟨A2,c2,rfl,f⟩:=a3.fl;replace f:FL w2 A2 2 c2 [1000000,0]:=f;replace f:=Za f;clear a3 o a4 I;obtain⟨g2,T⟩:=Gz w2.heap.size;obtain⟨V2,a5,qa,J⟩:=Zaw (w:=w2) 2 #[.int .i64 0,.int .i64 250000];have o:=LimI.lit7 (l:=[0,250000]) qa rfl (a0 _ Gj) Gj;rw[T]at o;simp only[Qe,Qf,Qx,Qy];go_wp2_with fail;(try rw[T]);(try rw[a5]);clear a5 qa;replace T:=Za T;refine(Zl7 (some ⟨g2,0,none⟩) 2 2 [0,250000] V2 o Gj).mono ?_;rintro e w3 ⟨v3,rfl,a6,a2⟩;have C:=Gs J a6;have V:=Gs U C;obtain⟨A3,c3,rfl,y⟩:=a2.fl;replace y:FL w3 A3 2 c3 [0,250000]:=y;replace f:=Za (f.out.below C);replace y:=Za y;clear a2 o a6 J C U;obtain⟨g4,a1⟩:=Gz w3.heap.size;obtain⟨V4,a9,qa,u⟩:=Zaw (w:=w3) 35 #[.slice A2 2 c2,.slice A3 2 c3];rw[a1]at qa;have a7:=Za (MFL.two7 qa (f.out.below u) (y.out.below u));have a8:=Za (Gs V u);clear f y V u qa;simp only[Qe,Qf,Qx,Qy];go_wp2_with fail;(try rw[a1]);(try rw[a9]);go_ret;exact⟨_,rfl,a8.out,a7.out⟩
