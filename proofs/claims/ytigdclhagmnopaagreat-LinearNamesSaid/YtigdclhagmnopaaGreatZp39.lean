/- Package linear: Rank. -/
import Derived.Test.YtigdclhagmnopaaGreatZp38
import Derived.Test.YtigdclhagmnopaaGreatZp33
set_option maxRecDepth 100000
set_option maxHeartbeats 4000000
set_option linter.unusedSimpArgs false
set_option linter.unusedVariables false
namespace Go.Proofs.YtigdclhagmnopaaGreat
open Go.RowKit
attribute [local go_sem] Zh
def Zd2 (Q : List (List Rat)) (n m : Nat) : Prop:=(∀ i k,i < n -> k <= m -> denTo (Q[i]?.getD []) k < pw 1000) /\ ∀ i j,(Zm Q i j).num.natAbs < pw 1000
theorem Zqr (A : Option Addr) (n c : Nat) (rs : List RX) (w : World) (h : MXL w A n c rs) (hE : Zdj rs = 0) (hok : okZ (pw 200) (n0R rs) (n0R rs) 0 0 (Zl (qM rs)) 1) (hfin : Zd2 (qM rs) n (n0R rs)) :
    Calls Tryz.prog 11 #[.slice A n c] w fun e w'=>e = .returned (.tuple #[.int .i64 (Zmf (qM rs) (n0R rs) : Nat),.int .i64 0]) /\ Below w.heap.size w w':=by
 have hmx : Tryz.prog.follows .mixedOrders = true:=by kernel_rfl
 have hne : (89 : TypeId) ≠ 43:=by decide
 obtain ⟨f1,f2,f3,f4,f5⟩:=Zci hE;have hl:=h.1
 have hn0 : 0 < n:=by omega
 have hbn : (0 : Int) < (n : Int):=by omega
 obtain ⟨g,o,r0,rfl,he0,c0,hL0⟩:=h.at_ (k:=0) hn0;rw [Nat.add_zero] at c0;have hr0:=Zp2 he0;obtain ⟨m,hm⟩ : ∃ m,n0R rs = m:=⟨_,rfl⟩;rw [hm] at hok hfin f3 f4 hr0 ⊢;rw [<- hr0] at c0;obtain ⟨FIN,hFIN⟩ : ∃ X,Z0 m 0 0 (Zl (qM rs)) false 1 = X:=⟨_,rfl⟩;obtain ⟨E',rk,ng,la⟩:=FIN;rw [show Zmf (qM rs) m = rk by unfold Zmf;rw [hFIN]];replace hFIN:=Za hFIN;have hQl:=Zlm h;have hQr:=Zni h hE;rw [hm] at hQr;replace h:=Za h;replace f5:=Za f5;replace hok:=Za hok;replace hE:=Za hE;replace hm:=Za hm;replace hr0:=Za hr0;replace he0:=Za he0;clear hL0;go_enter Tryz.func11,Tryz.ntmps11;go_wp2_with fail;refine (Zcn _ n c rs w h.out 0 hE.out).mono ?_;rintro e w1 ⟨rfl,hb1⟩;have k0:=Zc hb1 c0;have hF:=(h.out.below hb1).good hE.out;go_wp2_with fail;have hSv9 : Hid (∀ wx,Below w1.heap.size w1 wx -> wx.cell? ⟨g,o,none⟩ = some (.slice r0.A m r0.c)):=Za (fun wx hbx=>Zc hbx k0);obtain ⟨X0,hX0⟩ : ∃ X,w1.drew = X:=⟨_,rfl⟩
 have hr9 : Below w1.heap.size w1 X0:=by rw [<- hX0];exact Zf (Below.refl _ _) 1
 have hS0 : w1.drew.cell? ⟨g,o,none⟩ = some (.slice r0.A m r0.c):=k0;refine Zar [] (fun wx=>wx.cell? ⟨g,o,none⟩ = some (.slice r0.A m r0.c)) hmx hS0 (fun hxs9=>?_);refine Zif 5 [0,2,3,4,5] rfl (by kernel_rfl) hS0 ?_
 iterate 5 (refine tk1 (v:=?_) rfl (Or.inl ⟨by kernel_rfl,?_⟩) ?_;rotate_left;(· intro W2 hSw;(try dsimp only at hSw);go_simp;try with_reducible rfl);try simp only [Act.put,Zf0,Zfg,Zfv,putG_a,putG_s,putG_z])
 refine tk0 ?_;rw [hX0];clear hS0 hX0;refine Zc4 (i:=1) (j:=11) rfl rfl (by kernel_rfl) (fun K hK=>?_) (fun K hK=>?_)
 ·go_simp
  refine (Zfb _ n c m (qM rs) X0 (hF.below hr9) (by omega) hQr f3 (by omega) hfin.1 hfin.2).mono ?_;rintro e Y1 ⟨vY1,vbY1,LY1,rfl,hbY1,hMY1,hqY1,-⟩;have rY1:=hr9.trans (hbY1.mono hr9.size);refine hK.out _ _ (fun _=>hSv9.out _ rY1) ?_;clear hK K
  try simp only [Act.put,Zf0,Zfg,Zfv]
  refine Zc4 (i:=6) (j:=11) rfl rfl (by kernel_rfl) (fun K hK=>?_) (fun K hK=>?_)
  ·have hLlY2:=congrArg List.length hqY1
   rw [List.length_map] at hLlY2;unfold Zl at hLlY2;rw [List.length_map,hQl] at hLlY2;obtain ⟨goY2,capY2,rfl,hc1Y2,hc2Y2,hgoY2,hMMY2,hgsY2⟩:=hMY1.mat hne (fun e=>by rw [e] at hLlY2;simp at hLlY2;omega);rw [hLlY2] at hc1Y2 ⊢;go_simp;refine (Zcb goY2 n capY2 _ _ m m Y1 hMMY2 hLlY2 hn0 (by omega) hc1Y2 hc2Y2 (Nat.le_refl _) (by omega) (by rw [hqY1];exact hok.out)).mono ?_;rw [hqY1,hFIN.out];rintro e Y2 ⟨L2,ln,lA,lk,lc,rfl,-,-,-,-,-,hKKY2⟩
   have rrY2 : Below w1.heap.size w1 Y2:=rY1.trans (hKKY2.to_below (fun k hk=>by
    rcases hk with rfl | hk
    ·exact Nat.le_trans hr9.size hgoY2
    ·obtain ⟨s,hs,rfl⟩:=List.mem_map.1 hk
     exact Nat.le_trans hr9.size (hgsY2 s hs)) rY1.size)
   refine hK.out _ _ (fun _=>hSv9.out _ rrY2) ?_;clear hK K
   try simp only [Act.put,Zf0,Zfg,Zfv]
   refine Zfh 4 [7,8,9,10] rfl (by kernel_rfl) (hSv9.out _ rrY2) ?_
   iterate 4 (refine tk1 (v:=?_) rfl (Or.inl ⟨by kernel_rfl,?_⟩) ?_;rotate_left;(· intro W2 _;go_simp;try with_reducible rfl);try simp only [Act.put,Zf0,Zfg,Zfv,putG_a,putG_s,putG_z])
   refine tk0 ?_;refine Ze (i:=11) rfl (by kernel_rfl) (fun K hK=>?_);obtain ⟨Y3,hY3⟩ : ∃ Y,Y2.alloc (.cells #[.bool false,.slice none 0 0] 43) = Y:=⟨_,rfl⟩;obtain ⟨gv4,hgv4⟩ : ∃ g,Y2.heap.size = g:=⟨_,rfl⟩
   have hBY3 : Below Y2.heap.size Y2 Y3:=by rw [<- hY3];exact (Below.refl _ _).alloc (Nat.le_refl _) _
   have hvY3 : Blk Y3 gv4 43 #[.bool false,.slice none 0 0]:=by rw [<- hY3,<- hgv4];exact Blk.new _ _ _
   have rY3:=rrY2.trans (hBY3.mono rrY2.size)
   have hgsY3 : w1.heap.size <= gv4:=by rw [<- hgv4];exact rrY2.size
   have hvlt : gv4 < Y3.heap.size:=hvY3.lt;go_simp;(try rw [hY3]);(try rw [hgv4]);refine hK.out _ _ (fun _=>hSv9.out _ rY3) ?_;clear hK K hY3 hgv4
   try simp only [Act.put,Zf0,Zfg,Zfv]
   refine Zfh 2 [12,13] rfl (by kernel_rfl) (hSv9.out _ rY3) ?_
   iterate 2 (refine tk1 (v:=?_) rfl (Or.inl ⟨by kernel_rfl,?_⟩) ?_;rotate_left;(· intro W2 _;go_simp;try with_reducible rfl);try simp only [Act.put,Zf0,Zfg,Zfv,putG_a,putG_s,putG_z])
   refine tk0 ?_;obtain ⟨z0,z1,z2,z3⟩:=hvY3.two;have hfin2 : Below w1.heap.size w1 ((Y3.setCell ⟨gv4,0,none⟩ (.bool ln)).setCell ⟨gv4,1,none⟩ (.slice lA lk lc)):=(rY3.setCell (p:=⟨gv4,0,none⟩) hgsY3 _).setCell (p:=⟨gv4,1,none⟩) hgsY3 _;refine Ze (i:=14) rfl (by kernel_rfl) (fun K hK=>?_);go_simp;refine hK.out _ _ (fun _=>hSv9.out _ (by first | exact hfin2 | exact Zf hfin2 1)) ?_;clear hK K
   try simp only [Act.put,Zf0,Zfg,Zfv]
   refine Zk (by kernel_rfl) ?_ _;refine OnlyNormal.normal ?_;have hBf : Below w.heap.size w _:=hb1.trans (hfin2.mono hb1.size);clear hSv9 hxs9 z0 z1 z2 z3;go_wp2_with fail;go_returns;exact ⟨rfl,by first | exact hBf | exact Zf hBf 1⟩
  ·have hLlt : ∀ s ∈ LY1,s.g < Y1.heap.size:=fun s hs=>(hMY1.2.1 s hs).1.1.lt
   obtain ⟨Y5,hY5⟩ : ∃ Y,Y1.alloc (.cells #[.bool false,.slice none 0 0] 43) = Y:=⟨_,rfl⟩;obtain ⟨gv6,hgv6⟩ : ∃ g,Y1.heap.size = g:=⟨_,rfl⟩
   have hBY5 : Below Y1.heap.size Y1 Y5:=by rw [<- hY5];exact (Below.refl _ _).alloc (Nat.le_refl _) _
   have hvY5 : Blk Y5 gv6 43 #[.bool false,.slice none 0 0]:=by rw [<- hY5,<- hgv6];exact Blk.new _ _ _
   have rY5:=rY1.trans (hBY5.mono rY1.size)
   have hgsY5 : w1.heap.size <= gv6:=by rw [<- hgv6];exact rY1.size
   have hvlt : gv6 < Y5.heap.size:=hvY5.lt
   have hvne : ∀ s ∈ LY1,s.g ≠ gv6:=fun s hs=>by have:=hLlt s hs;omega
   have hMY1Y5:=MatOZ.kept hMY1 hBY5;go_simp;(try rw [hY5]);(try rw [hgv6]);refine hK.out _ _ (fun _=>hSv9.out _ rY5) ?_;clear hK K hY5 hgv6
   try simp only [Act.put,Zf0,Zfg,Zfv]
   refine Ze (i:=6) rfl (by kernel_rfl) (fun K hK=>?_);have hLlY7:=congrArg List.length hqY1;rw [List.length_map] at hLlY7;unfold Zl at hLlY7;rw [List.length_map,hQl] at hLlY7;obtain ⟨goY7,capY7,rfl,hc1Y7,hc2Y7,hgoY7,hMMY7,hgsY7⟩:=hMY1Y5.mat hne (fun e=>by rw [e] at hLlY7;simp at hLlY7;omega);rw [hLlY7] at hc1Y7 ⊢;go_simp;refine (Zcb goY7 n capY7 _ _ m m Y5 hMMY7 hLlY7 hn0 (by omega) hc1Y7 hc2Y7 (Nat.le_refl _) (by omega) (by rw [hqY1];exact hok.out)).mono ?_;rw [hqY1,hFIN.out];rintro e Y7 ⟨L2,ln,lA,lk,lc,rfl,-,-,-,-,-,hKKY7⟩
   have rrY7 : Below w1.heap.size w1 Y7:=rY5.trans (hKKY7.to_below (fun k hk=>by
    rcases hk with rfl | hk
    ·exact Nat.le_trans hr9.size hgoY7
    ·obtain ⟨s,hs,rfl⟩:=List.mem_map.1 hk
     exact Nat.le_trans hr9.size (hgsY7 s hs)) rY5.size)
   have hvY5Y7 : Blk Y7 gv6 43 #[.bool false,.slice none 0 0]:=hKKY7.blk hvY5 (fun hk=>by
    rcases hk with hk | hk
    ·obtain ⟨⟨zs,hz⟩,-,-⟩:=hMMY7
     rw [<- hk] at hz;exact hne (hz.type hvY5)
    ·obtain ⟨s,hs,e⟩:=List.mem_map.1 hk
     exact absurd e (hvne s hs))
   refine hK.out _ _ (fun _=>hSv9.out _ rrY7) ?_;clear hK K
   try simp only [Act.put,Zf0,Zfg,Zfv]
   refine Zfh 6 [7,8,9,10,12,13] rfl (by kernel_rfl) (hSv9.out _ rrY7) ?_
   iterate 6 (refine tk1 (v:=?_) rfl (Or.inl ⟨by kernel_rfl,?_⟩) ?_;rotate_left;(· intro W2 _;go_simp;try with_reducible rfl);try simp only [Act.put,Zf0,Zfg,Zfv,putG_a,putG_s,putG_z])
   refine tk0 ?_;obtain ⟨z0,z1,z2,z3⟩:=hvY5Y7.two;have hfin2 : Below w1.heap.size w1 ((Y7.setCell ⟨gv6,0,none⟩ (.bool ln)).setCell ⟨gv6,1,none⟩ (.slice lA lk lc)):=(rrY7.setCell (p:=⟨gv6,0,none⟩) hgsY5 _).setCell (p:=⟨gv6,1,none⟩) hgsY5 _;refine Ze (i:=14) rfl (by kernel_rfl) (fun K hK=>?_);go_simp;refine hK.out _ _ (fun _=>hSv9.out _ (by first | exact hfin2 | exact Zf hfin2 1)) ?_;clear hK K
   try simp only [Act.put,Zf0,Zfg,Zfv]
   refine Zk (by kernel_rfl) ?_ _;refine OnlyNormal.normal ?_;have hBf : Below w.heap.size w _:=hb1.trans (hfin2.mono hb1.size);clear hSv9 hxs9 z0 z1 z2 z3;go_wp2_with fail;go_returns;exact ⟨rfl,by first | exact hBf | exact Zf hBf 1⟩
 ·obtain ⟨Y8,hY8⟩ : ∃ Y,X0.alloc (.cells #[.bool false,.slice none 0 0] 43) = Y:=⟨_,rfl⟩
  obtain ⟨gv9,hgv9⟩ : ∃ g,X0.heap.size = g:=⟨_,rfl⟩
  have hBY8 : Below X0.heap.size X0 Y8:=by rw [<- hY8];exact (Below.refl _ _).alloc (Nat.le_refl _) _
  have hvY8 : Blk Y8 gv9 43 #[.bool false,.slice none 0 0]:=by rw [<- hY8,<- hgv9];exact Blk.new _ _ _
  have rY8:=hr9.trans (hBY8.mono hr9.size)
  have hgsY8 : w1.heap.size <= gv9:=by rw [<- hgv9];exact hr9.size
  have hvlt : gv9 < Y8.heap.size:=hvY8.lt;go_simp;(try rw [hY8]);(try rw [hgv9]);refine hK.out _ _ (fun _=>hSv9.out _ rY8) ?_;clear hK K hY8 hgv9
  try simp only [Act.put,Zf0,Zfg,Zfv]
  refine Ze (i:=1) rfl (by kernel_rfl) (fun K hK=>?_);go_simp;refine (Zfb _ n c m (qM rs) Y8 (hF.below rY8) (by omega) hQr f3 (by omega) hfin.1 hfin.2).mono ?_;rintro e Y10 ⟨vY10,vbY10,LY10,rfl,hbY10,hMY10,hqY10,-⟩;have rY10:=rY8.trans (hbY10.mono rY8.size);have hvY8Y10:=Zb hbY10 hvY8;refine hK.out _ _ (fun _=>hSv9.out _ rY10) ?_;clear hK K
  try simp only [Act.put,Zf0,Zfg,Zfv]
  have hvne : ∀ s ∈ LY10,s.g ≠ gv9:=fun s hs=>by have:=(hMY10.2.1 s hs).2;have:=hvlt;omega
  refine Ze (i:=6) rfl (by kernel_rfl) (fun K hK=>?_);have hLlY11:=congrArg List.length hqY10;rw [List.length_map] at hLlY11;unfold Zl at hLlY11;rw [List.length_map,hQl] at hLlY11;obtain ⟨goY11,capY11,rfl,hc1Y11,hc2Y11,hgoY11,hMMY11,hgsY11⟩:=hMY10.mat hne (fun e=>by rw [e] at hLlY11;simp at hLlY11;omega);rw [hLlY11] at hc1Y11 ⊢;go_simp;refine (Zcb goY11 n capY11 _ _ m m Y10 hMMY11 hLlY11 hn0 (by omega) hc1Y11 hc2Y11 (Nat.le_refl _) (by omega) (by rw [hqY10];exact hok.out)).mono ?_;rw [hqY10,hFIN.out];rintro e Y11 ⟨L2,ln,lA,lk,lc,rfl,-,-,-,-,-,hKKY11⟩
  have rrY11 : Below w1.heap.size w1 Y11:=rY10.trans (hKKY11.to_below (fun k hk=>by
   rcases hk with rfl | hk
   ·exact Nat.le_trans rY8.size hgoY11
   ·obtain ⟨s,hs,rfl⟩:=List.mem_map.1 hk
    exact Nat.le_trans rY8.size (hgsY11 s hs)) rY10.size)
  have hvY8Y10Y11 : Blk Y11 gv9 43 #[.bool false,.slice none 0 0]:=hKKY11.blk hvY8Y10 (fun hk=>by
   rcases hk with hk | hk
   ·obtain ⟨⟨zs,hz⟩,-,-⟩:=hMMY11
    rw [<- hk] at hz;exact hne (hz.type hvY8Y10)
   ·obtain ⟨s,hs,e⟩:=List.mem_map.1 hk
    exact absurd e (hvne s hs))
  refine hK.out _ _ (fun _=>hSv9.out _ rrY11) ?_;clear hK K
  try simp only [Act.put,Zf0,Zfg,Zfv]
  refine Zfh 6 [7,8,9,10,12,13] rfl (by kernel_rfl) (hSv9.out _ rrY11) ?_
  iterate 6 (refine tk1 (v:=?_) rfl (Or.inl ⟨by kernel_rfl,?_⟩) ?_;rotate_left;(· intro W2 _;go_simp;try with_reducible rfl);try simp only [Act.put,Zf0,Zfg,Zfv,putG_a,putG_s,putG_z])
  refine tk0 ?_;obtain ⟨z0,z1,z2,z3⟩:=hvY8Y10Y11.two;have hfin2 : Below w1.heap.size w1 ((Y11.setCell ⟨gv9,0,none⟩ (.bool ln)).setCell ⟨gv9,1,none⟩ (.slice lA lk lc)):=(rrY11.setCell (p:=⟨gv9,0,none⟩) hgsY8 _).setCell (p:=⟨gv9,1,none⟩) hgsY8 _;refine Ze (i:=14) rfl (by kernel_rfl) (fun K hK=>?_);go_simp;refine hK.out _ _ (fun _=>hSv9.out _ (by first | exact hfin2 | exact Zf hfin2 1)) ?_;clear hK K
  try simp only [Act.put,Zf0,Zfg,Zfv]
  refine Zk (by kernel_rfl) ?_ _;refine OnlyNormal.normal ?_;have hBf : Below w.heap.size w _:=hb1.trans (hfin2.mono hb1.size);clear hSv9 hxs9 z0 z1 z2 z3;go_wp2_with fail;go_returns;exact ⟨rfl,by first | exact hBf | exact Zf hBf 1⟩
end Go.Proofs.YtigdclhagmnopaaGreat
