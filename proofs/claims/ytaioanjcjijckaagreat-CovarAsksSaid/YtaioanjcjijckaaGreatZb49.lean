/- The reference of covar: Corr. The reference of covar: -/
import Derived.Deep.LoopGhost
import Derived.ChangeKeysEq
import Derived.Laws.StructEq
import Derived.OpenShut
import Derived.Test.YtaioanjcjijckaaGreatZb48
set_option maxRecDepth 100000
set_option maxHeartbeats 8000000
set_option linter.unusedSimpArgs false
set_option linter.unusedVariables false
namespace Go.Proofs.YtaioanjcjijckaaGreat
open Go.RowKit
attribute [local go_sem] Zf
theorem Zsb (A:Option Addr) (n c:Nat) (rs:List RX) (i k:Int) (w:World) (h:MXL w A n c rs) (hF:FacC rs) (hi1:-9223372036854775808 <= i) (hi2:i <= 9223372036854775807) (hk1:-9223372036854775808 <= k) (hk2:k <= 9223372036854775807) (hS:Zar rs=0->∀ a b,SmN 5 5 (Zg (qM rs) a b)) :
    Calls Tryz.prog 15 #[.slice A n c,.int .i64 i,.int .i64 k] w (FracPost (Zol rs i k) (corV rs i k) w):=by
 have hmx:Tryz.prog.follows .mixedOrders=true:=by kernel_rfl
 have hnl:=Za h.1;have hnc:=h.2.1;have hcm:=h.2.2.1;unfold maxLen at hcm;obtain ⟨W0,hW0,hB0,q0,s0⟩:=Zaw w 29 #[.bool false,.slice none 0 0,.bool false,.slice none 0 0];obtain ⟨E,hE⟩:∃ E,Zar rs=E:=⟨_,rfl⟩;have hC:=Za (fun X (hx:MXL X A n c rs)=>Zfj A n c rs X hx hF E hE);have hH:=Za (h.below hB0);replace hS:=Za hS;replace q0:=Za q0;replace hB0:=Za hB0;replace hE:=Za hE;clear h hF;replace s0:=Za s0;go_enter Tryz.func15,Tryz.ntmps15;go_wp2_with fail;(try rw [hW0]);clear hW0;refine (hC.out W0 hH.out).mono ?_;rintro e w1 ⟨rfl,hb1⟩;replace hH:=Za (hH.out.below hb1);replace q0:=Za (Zc hb1 q0.out);have hB2:=Za (hB0.out.trans (hb1.mono hB0.out.size));clear hB0;clear hb1
 by_cases h0:E=0
 case neg =>
  have t1:(E == 0)=false:=by simpa using h0
  have t1':decide (E=0)=false:=by simpa using h0
  have t1'':(E != 0)=true:=by rw [bne,t1];rfl
  have hE0:=Za h0;have hPE:=Za (Zog (i:=i) (k:=k) hE.out h0);clear h0;go_wp2_with fail;refine (hC.out w1 hH.out).mono ?_;rintro e w3 ⟨rfl,hb1⟩;replace hH:=Za (hH.out.below hb1);replace q0:=Za (Zc hb1 q0.out);have hB4:=Za (hB2.out.trans (hb1.mono hB2.out.size));clear hB2;clear hb1;obtain ⟨U,hU,hBU,q3,-,-,-⟩:=Zv false none 0 0 false none 0 0 hB4.out (Nat.le_refl _) q0.out;obtain ⟨r0,r1,r2,r3,-⟩:=q3.four;obtain ⟨d0,d1,d2,d3,f0,f1,f2,f3⟩:=q0.out.four;go_wp2_with fail;(try rw [hU]);refine bodyPost_ret (v:=.tuple #[.agg #[.bool false,.slice none 0 0,.bool false,.slice none 0 0],.int .i64 (E)]) (by simp [results,Tryz.results15,go_sem,r0,r1,r2,r3]) rfl ?_;exact FracPost.fall hBU hPE.out (by first | decide | exact hE0.out)
 have h0':Zar rs=0:=hE.out.trans h0;subst h0;have hSS:=Za (hS.out h0');obtain ⟨hcV,hcS,hcP⟩:=Zdx h0'
 have hn6:n <= 6:=by rw [<- hnl.out];exact hcV.facts.2.1
 have hrow:=hcV.row hH.out;have hM:=Za (hcV.good hH.out);have h0:=Za h0';replace hrow:=Za hrow;clear hcV hcS hcP hC hS h0' hE;clear hH
 by_cases hb0:i < 0
 case pos =>
  have t0:decide (i < 0)=true:=decide_eq_true hb0;have hPE:=Za (Ze0 (i:=i) (k:=k) h0.out (fun hh=>by rw [hnl.out] at hh;omega));replace hb0:=Za hb0;obtain ⟨U,hU,hBU,q3,-,-,-⟩:=Zv false none 0 0 false none 0 0 hB2.out (Nat.le_refl _) q0.out;obtain ⟨r0,r1,r2,r3,-⟩:=q3.four;obtain ⟨d0,d1,d2,d3,f0,f1,f2,f3⟩:=q0.out.four;go_wp2_with fail;(try rw [hU]);refine bodyPost_ret (v:=.tuple #[.agg #[.bool false,.slice none 0 0,.bool false,.slice none 0 0],.int .i64 (8)]) (by simp [results,Tryz.results15,go_sem,r0,r1,r2,r3]) rfl ?_;exact FracPost.fall hBU hPE.out (by first | decide | exact hE0.out)
 by_cases hb1:(n:Int) <= i
 case pos =>
  have t0:decide (i < 0)=false:=decide_eq_false hb0;have t1:decide ((n:Int) <= i)=true:=decide_eq_true hb1;have hPE:=Za (Ze0 (i:=i) (k:=k) h0.out (fun hh=>by rw [hnl.out] at hh;omega));replace hb0:=Za hb0;replace hb1:=Za hb1;obtain ⟨U,hU,hBU,q3,-,-,-⟩:=Zv false none 0 0 false none 0 0 hB2.out (Nat.le_refl _) q0.out;obtain ⟨r0,r1,r2,r3,-⟩:=q3.four;obtain ⟨d0,d1,d2,d3,f0,f1,f2,f3⟩:=q0.out.four;go_wp2_with fail;(try rw [hU]);refine bodyPost_ret (v:=.tuple #[.agg #[.bool false,.slice none 0 0,.bool false,.slice none 0 0],.int .i64 (8)]) (by simp [results,Tryz.results15,go_sem,r0,r1,r2,r3]) rfl ?_;exact FracPost.fall hBU hPE.out (by first | decide | exact hE0.out)
 by_cases hb2:k < 0
 case pos =>
  have t0:decide (i < 0)=false:=decide_eq_false hb0;have t1:decide ((n:Int) <= i)=false:=decide_eq_false hb1;have t2:decide (k < 0)=true:=decide_eq_true hb2;have hPE:=Za (Ze0 (i:=i) (k:=k) h0.out (fun hh=>by rw [hnl.out] at hh;omega));replace hb0:=Za hb0;replace hb1:=Za hb1;replace hb2:=Za hb2;obtain ⟨U,hU,hBU,q3,-,-,-⟩:=Zv false none 0 0 false none 0 0 hB2.out (Nat.le_refl _) q0.out;obtain ⟨r0,r1,r2,r3,-⟩:=q3.four;obtain ⟨d0,d1,d2,d3,f0,f1,f2,f3⟩:=q0.out.four;go_wp2_with fail;(try rw [hU]);refine bodyPost_ret (v:=.tuple #[.agg #[.bool false,.slice none 0 0,.bool false,.slice none 0 0],.int .i64 (8)]) (by simp [results,Tryz.results15,go_sem,r0,r1,r2,r3]) rfl ?_;exact FracPost.fall hBU hPE.out (by first | decide | exact hE0.out)
 by_cases hb3:(n:Int) <= k
 case pos =>
  have t0:decide (i < 0)=false:=decide_eq_false hb0;have t1:decide ((n:Int) <= i)=false:=decide_eq_false hb1;have t2:decide (k < 0)=false:=decide_eq_false hb2;have t3:decide ((n:Int) <= k)=true:=decide_eq_true hb3;have hPE:=Za (Ze0 (i:=i) (k:=k) h0.out (fun hh=>by rw [hnl.out] at hh;omega));replace hb0:=Za hb0;replace hb1:=Za hb1;replace hb2:=Za hb2;replace hb3:=Za hb3;obtain ⟨U,hU,hBU,q3,-,-,-⟩:=Zv false none 0 0 false none 0 0 hB2.out (Nat.le_refl _) q0.out;obtain ⟨r0,r1,r2,r3,-⟩:=q3.four;obtain ⟨d0,d1,d2,d3,f0,f1,f2,f3⟩:=q0.out.four;go_wp2_with fail;(try rw [hU]);refine bodyPost_ret (v:=.tuple #[.agg #[.bool false,.slice none 0 0,.bool false,.slice none 0 0],.int .i64 (8)]) (by simp [results,Tryz.results15,go_sem,r0,r1,r2,r3]) rfl ?_;exact FracPost.fall hBU hPE.out (by first | decide | exact hE0.out)
 have hPE:=Za (Zqs (i:=i) (k:=k) h0.out (by rw [hnl.out];omega));have t0:decide (i < 0)=false:=decide_eq_false hb0;have t1:decide ((n:Int) <= i)=false:=decide_eq_false hb1;have t2:decide (k < 0)=false:=decide_eq_false hb2;have t3:decide ((n:Int) <= k)=false:=decide_eq_false hb3;obtain ⟨I,hI⟩:∃ I:Nat,i=I:=⟨i.toNat,by omega⟩;obtain ⟨K,hK⟩:∃ K:Nat,k=K:=⟨k.toNat,by omega⟩
 have hIn:I < n:=by omega
 have hKn:K < n:=by omega
 replace hb0:=Za hb0;replace hb1:=Za hb1;replace hb2:=Za hb2;replace hb3:=Za hb3
 have bI:i < (n:Int):=by omega
 have bK:k < (n:Int):=by omega
 have bI0:0 <= i:=by omega
 have bK0:0 <= k:=by omega
 subst hI hK;have t1n:decide (n <= I)=false:=decide_eq_false (by omega);have t3n:decide (n <= K)=false:=decide_eq_false (by omega);obtain ⟨g,o,-,-,-,rfl,-,-⟩:=hM.out.at_ hIn;obtain ⟨gi,oi,ci,rI,hci1,hci2,hEI⟩:=hM.out.ents hrow.out hIn;obtain ⟨gk,ok,ck,rK,hck1,hck2,hEK⟩:=hM.out.ents hrow.out hKn;unfold maxLen at hci2 hck2;obtain ⟨an,aA,ak,ac,am,aB,aj,ad,⟨a0,a1,a2,a3⟩,haf⟩:=hEI K hKn;obtain ⟨bn,bA,bk,bc,bm,bB,bj,bd,⟨b0,b1,b2,b3⟩,hbf⟩:=hEI I hIn;obtain ⟨cn,cA,ck',cc,cm,cB,cj,cd,⟨c0,c1,c2,c3⟩,hcf⟩:=hEK K hKn;have hd1:=Zev h0.out (k:=I) (by rw [hnl.out];exact hIn);have hd2:=Zev h0.out (k:=K) (by rw [hnl.out];exact hKn);obtain ⟨x,hx⟩:∃ x,Zg (qM rs) I K=x:=⟨_,rfl⟩;obtain ⟨y,hy⟩:∃ x,Zg (qM rs) I I=x:=⟨_,rfl⟩;obtain ⟨z,hz⟩:∃ x,Zg (qM rs) K K=x:=⟨_,rfl⟩;have sx:=hSS.out I K;have sy:=hSS.out I I;have sz:=hSS.out K K;rw [hx] at haf sx;rw [hy] at hbf sy hd1;rw [hz] at hcf sz hd2;have hV:Hid (corV rs (I:Int) (K:Int)=x * x / (y * z)):=Za (by unfold corV;rw [Int.toNat_natCast,Int.toNat_natCast,hx,hy,hz])
 have hyz:y * z ≠ 0:=fun e=>absurd (Rat.mul_pos hd1 hd2) (by rw [e];decide)
 have s1:Sm x:=sx.sm (by decide) (by decide);have s2:Sm y:=sy.sm (by decide) (by decide);have s3:Sm z:=sz.sm (by decide) (by decide);have s4:Sm (x * x):=(sx.mulN sx).sm (by decide) (by decide);have s5:Sm (y * z):=(sy.mulN sz).sm (by decide) (by decide);replace hyz:=Za hyz;replace s1:=Za s1;replace s2:=Za s2;replace s3:=Za s3;replace s4:=Za s4;replace s5:=Za s5;clear sx sy sz hx hy hz hd1 hd2 hEI hEK hSS;replace haf:=Za haf;replace hbf:=Za hbf;replace hcf:=Za hcf;clear hM;clear hrow h0;go_wp2_with fail;have hr5:Below w1.heap.size w1 w1.drew:=Zi (Below.refl _ _) 1;replace q0:=Za (Zc hr5 q0.out);replace haf:=Za (haf.out.below hr5);replace hbf:=Za (hbf.out.below hr5);replace hcf:=Za (hcf.out.below hr5);have hB6:=Za (hB2.out.trans (hr5.mono hB2.out.size));clear hB2;replace rI:=Zb hr5 rI;replace rK:=Zb hr5 rK;replace a0:=Zb hr5 a0;replace a1:=Zb hr5 a1;replace a2:=Zb hr5 a2;replace a3:=Zb hr5 a3;replace b0:=Zb hr5 b0;replace b1:=Zb hr5 b1;replace b2:=Zb hr5 b2;replace b3:=Zb hr5 b3;replace c0:=Zb hr5 c0;replace c1:=Zb hr5 c1;replace c2:=Zb hr5 c2;replace c3:=Zb hr5 c3;clear hr5
 refine Z8 [31] (fun wx=>(wx.cell? ⟨g,o+I,none⟩=some (.slice (some ⟨gi,oi,none⟩) n ci))/\(wx.cell? ⟨g,o+K,none⟩=some (.slice (some ⟨gk,ok,none⟩) n ck))/\(wx.cell? ⟨gi,oi+K * 4,none⟩=some (.bool an))/\(wx.cell? ⟨gi,oi+K * 4+1,none⟩=some (.slice aA ak ac))/\(wx.cell? ⟨gi,oi+K * 4+2,none⟩=some (.bool am))/\(wx.cell? ⟨gi,oi+K * 4+3,none⟩=some (.slice aB aj ad))/\(wx.cell? ⟨gi,oi+I * 4,none⟩=some (.bool bn))/\(wx.cell? ⟨gi,oi+I * 4+1,none⟩=some (.slice bA bk bc))/\(wx.cell? ⟨gi,oi+I * 4+2,none⟩=some (.bool bm))/\(wx.cell? ⟨gi,oi+I * 4+3,none⟩=some (.slice bB bj bd))/\(wx.cell? ⟨gk,ok+K * 4,none⟩=some (.bool cn))/\(wx.cell? ⟨gk,ok+K * 4+1,none⟩=some (.slice cA ck' cc))/\(wx.cell? ⟨gk,ok+K * 4+2,none⟩=some (.bool cm))/\(wx.cell? ⟨gk,ok+K * 4+3,none⟩=some (.slice cB cj cd))) hmx ⟨rI,rK,a0,a1,a2,a3,b0,b1,b2,b3,c0,c1,c2,c3⟩ (fun _=>?_);refine Zd (i:=0) (v:=?vt1) rfl (by kernel_rfl) (by kernel_rfl) (by kernel_rfl) (by kernel_rfl) (by kernel_rfl) (Or.inl ⟨by kernel_rfl,?hyt1⟩) ⟨rI,rK,a0,a1,a2,a3,b0,b1,b2,b3,c0,c1,c2,c3⟩ ?rt1
 case hyt1=>(intro W2 hSw;(try dsimp only at hSw);go_simp;try with_reducible rfl)
 try simp only [Act.put,putL_a,putL_z,putL_s,putG_a,putG_s,putG_z]
 refine Zd (i:=1) (v:=?vt2) rfl (by kernel_rfl) (by kernel_rfl) (by kernel_rfl) (by kernel_rfl) (by kernel_rfl) (Or.inl ⟨by kernel_rfl,?hyt2⟩) ⟨rI,rK,a0,a1,a2,a3,b0,b1,b2,b3,c0,c1,c2,c3⟩ ?rt2
 case hyt2=>(intro W2 hSw;(try dsimp only at hSw);go_simp;try with_reducible rfl)
 try simp only [Act.put,putL_a,putL_z,putL_s,putG_a,putG_s,putG_z]
 refine Zd (i:=2) (v:=?vt3) rfl (by kernel_rfl) (by kernel_rfl) (by kernel_rfl) (by kernel_rfl) (by kernel_rfl) (Or.inl ⟨by kernel_rfl,?hyt3⟩) ⟨rI,rK,a0,a1,a2,a3,b0,b1,b2,b3,c0,c1,c2,c3⟩ ?rt3
 case hyt3=>(intro W2 hSw;(try dsimp only at hSw);go_simp;try with_reducible rfl)
 try simp only [Act.put,putL_a,putL_z,putL_s,putG_a,putG_s,putG_z]
 refine Zd (i:=3) (v:=?vt4) rfl (by kernel_rfl) (by kernel_rfl) (by kernel_rfl) (by kernel_rfl) (by kernel_rfl) (Or.inl ⟨by kernel_rfl,?hyt4⟩) ⟨rI,rK,a0,a1,a2,a3,b0,b1,b2,b3,c0,c1,c2,c3⟩ ?rt4
 case hyt4=>(intro W2 hSw;(try dsimp only at hSw);go_simp;try with_reducible rfl)
 try simp only [Act.put,putL_a,putL_z,putL_s,putG_a,putG_s,putG_z]
 refine Zd (i:=4) (v:=?vt5) rfl (by kernel_rfl) (by kernel_rfl) (by kernel_rfl) (by kernel_rfl) (by kernel_rfl) (Or.inl ⟨by kernel_rfl,?hyt5⟩) ⟨rI,rK,a0,a1,a2,a3,b0,b1,b2,b3,c0,c1,c2,c3⟩ ?rt5
 case hyt5=>(intro W2 hSw;(try dsimp only at hSw);go_simp;try with_reducible rfl)
 try simp only [Act.put,putL_a,putL_z,putL_s,putG_a,putG_s,putG_z]
 refine Zd (i:=5) (v:=?vt6) rfl (by kernel_rfl) (by kernel_rfl) (by kernel_rfl) (by kernel_rfl) (by kernel_rfl) (Or.inl ⟨by kernel_rfl,?hyt6⟩) ⟨rI,rK,a0,a1,a2,a3,b0,b1,b2,b3,c0,c1,c2,c3⟩ ?rt6
 case hyt6=>(intro W2 hSw;(try dsimp only at hSw);go_simp;try with_reducible rfl)
 try simp only [Act.put,putL_a,putL_z,putL_s,putG_a,putG_s,putG_z]
 refine Zd (i:=6) (v:=?vt7) rfl (by kernel_rfl) (by kernel_rfl) (by kernel_rfl) (by kernel_rfl) (by kernel_rfl) (Or.inl ⟨by kernel_rfl,?hyt7⟩) ⟨rI,rK,a0,a1,a2,a3,b0,b1,b2,b3,c0,c1,c2,c3⟩ ?rt7
 case hyt7=>(intro W2 hSw;(try dsimp only at hSw);go_simp;try with_reducible rfl)
 try simp only [Act.put,putL_a,putL_z,putL_s,putG_a,putG_s,putG_z]
 refine Zd (i:=7) (v:=?vt8) rfl (by kernel_rfl) (by kernel_rfl) (by kernel_rfl) (by kernel_rfl) (by kernel_rfl) (Or.inl ⟨by kernel_rfl,?hyt8⟩) ⟨rI,rK,a0,a1,a2,a3,b0,b1,b2,b3,c0,c1,c2,c3⟩ ?rt8
 case hyt8=>(intro W2 hSw;(try dsimp only at hSw);go_simp;try with_reducible rfl)
 try simp only [Act.put,putL_a,putL_z,putL_s,putG_a,putG_s,putG_z]
 refine Zd (i:=8) (v:=?vt9) rfl (by kernel_rfl) (by kernel_rfl) (by kernel_rfl) (by kernel_rfl) (by kernel_rfl) (Or.inl ⟨by kernel_rfl,?hyt9⟩) ⟨rI,rK,a0,a1,a2,a3,b0,b1,b2,b3,c0,c1,c2,c3⟩ ?rt9
 case hyt9=>(intro W2 hSw;(try dsimp only at hSw);go_simp;try with_reducible rfl)
 try simp only [Act.put,putL_a,putL_z,putL_s,putG_a,putG_s,putG_z]
 refine Zd (i:=9) (v:=?vt10) rfl (by kernel_rfl) (by kernel_rfl) (by kernel_rfl) (by kernel_rfl) (by kernel_rfl) (Or.inl ⟨by kernel_rfl,?hyt10⟩) ⟨rI,rK,a0,a1,a2,a3,b0,b1,b2,b3,c0,c1,c2,c3⟩ ?rt10
 case hyt10=>(intro W2 hSw;(try dsimp only at hSw);go_simp;try with_reducible rfl)
 try simp only [Act.put,putL_a,putL_z,putL_s,putG_a,putG_s,putG_z]
 refine Zd (i:=10) (v:=?vt11) rfl (by kernel_rfl) (by kernel_rfl) (by kernel_rfl) (by kernel_rfl) (by kernel_rfl) (Or.inl ⟨by kernel_rfl,?hyt11⟩) ⟨rI,rK,a0,a1,a2,a3,b0,b1,b2,b3,c0,c1,c2,c3⟩ ?rt11
 case hyt11=>(intro W2 hSw;(try dsimp only at hSw);go_simp;try with_reducible rfl)
 try simp only [Act.put,putL_a,putL_z,putL_s,putG_a,putG_s,putG_z]
 refine Zd (i:=11) (v:=?vt12) rfl (by kernel_rfl) (by kernel_rfl) (by kernel_rfl) (by kernel_rfl) (by kernel_rfl) (Or.inl ⟨by kernel_rfl,?hyt12⟩) ⟨rI,rK,a0,a1,a2,a3,b0,b1,b2,b3,c0,c1,c2,c3⟩ ?rt12
 case hyt12=>(intro W2 hSw;(try dsimp only at hSw);go_simp;try with_reducible rfl)
 try simp only [Act.put,putL_a,putL_z,putL_s,putG_a,putG_s,putG_z]
 refine Zd (i:=12) (v:=?vt13) rfl (by kernel_rfl) (by kernel_rfl) (by kernel_rfl) (by kernel_rfl) (by kernel_rfl) (Or.inl ⟨by kernel_rfl,?hyt13⟩) ⟨rI,rK,a0,a1,a2,a3,b0,b1,b2,b3,c0,c1,c2,c3⟩ ?rt13
 case hyt13=>(intro W2 hSw;(try dsimp only at hSw);go_simp;try with_reducible rfl)
 try simp only [Act.put,putL_a,putL_z,putL_s,putG_a,putG_s,putG_z]
 refine Zd (i:=13) (v:=?vt14) rfl (by kernel_rfl) (by kernel_rfl) (by kernel_rfl) (by kernel_rfl) (by kernel_rfl) (Or.inl ⟨by kernel_rfl,?hyt14⟩) ⟨rI,rK,a0,a1,a2,a3,b0,b1,b2,b3,c0,c1,c2,c3⟩ ?rt14
 case hyt14=>(intro W2 hSw;(try dsimp only at hSw);go_simp;try with_reducible rfl)
 try simp only [Act.put,putL_a,putL_z,putL_s,putG_a,putG_s,putG_z]
 refine Zd (i:=15) (v:=?vt15) rfl (by kernel_rfl) (by kernel_rfl) (by kernel_rfl) (by kernel_rfl) (by kernel_rfl) (Or.inl ⟨by kernel_rfl,?hyt15⟩) ⟨rI,rK,a0,a1,a2,a3,b0,b1,b2,b3,c0,c1,c2,c3⟩ ?rt15
 case hyt15=>(intro W2 hSw;(try dsimp only at hSw);go_simp;try with_reducible rfl)
 try simp only [Act.put,putL_a,putL_z,putL_s,putG_a,putG_s,putG_z]
 refine Zd (i:=16) (v:=?vt16) rfl (by kernel_rfl) (by kernel_rfl) (by kernel_rfl) (by kernel_rfl) (by kernel_rfl) (Or.inl ⟨by kernel_rfl,?hyt16⟩) ⟨rI,rK,a0,a1,a2,a3,b0,b1,b2,b3,c0,c1,c2,c3⟩ ?rt16
 case hyt16=>(intro W2 hSw;(try dsimp only at hSw);go_simp;try with_reducible rfl)
 try simp only [Act.put,putL_a,putL_z,putL_s,putG_a,putG_s,putG_z]
 refine Zd (i:=17) (v:=?vt17) rfl (by kernel_rfl) (by kernel_rfl) (by kernel_rfl) (by kernel_rfl) (by kernel_rfl) (Or.inl ⟨by kernel_rfl,?hyt17⟩) ⟨rI,rK,a0,a1,a2,a3,b0,b1,b2,b3,c0,c1,c2,c3⟩ ?rt17
 case hyt17=>(intro W2 hSw;(try dsimp only at hSw);go_simp;try with_reducible rfl)
 try simp only [Act.put,putL_a,putL_z,putL_s,putG_a,putG_s,putG_z]
 refine Zd (i:=18) (v:=?vt18) rfl (by kernel_rfl) (by kernel_rfl) (by kernel_rfl) (by kernel_rfl) (by kernel_rfl) (Or.inl ⟨by kernel_rfl,?hyt18⟩) ⟨rI,rK,a0,a1,a2,a3,b0,b1,b2,b3,c0,c1,c2,c3⟩ ?rt18
 case hyt18=>(intro W2 hSw;(try dsimp only at hSw);go_simp;try with_reducible rfl)
 try simp only [Act.put,putL_a,putL_z,putL_s,putG_a,putG_s,putG_z]
 refine Zd (i:=19) (v:=?vt19) rfl (by kernel_rfl) (by kernel_rfl) (by kernel_rfl) (by kernel_rfl) (by kernel_rfl) (Or.inl ⟨by kernel_rfl,?hyt19⟩) ⟨rI,rK,a0,a1,a2,a3,b0,b1,b2,b3,c0,c1,c2,c3⟩ ?rt19
 case hyt19=>(intro W2 hSw;(try dsimp only at hSw);go_simp;try with_reducible rfl)
 try simp only [Act.put,putL_a,putL_z,putL_s,putG_a,putG_s,putG_z]
 refine Zd (i:=20) (v:=?vt20) rfl (by kernel_rfl) (by kernel_rfl) (by kernel_rfl) (by kernel_rfl) (by kernel_rfl) (Or.inl ⟨by kernel_rfl,?hyt20⟩) ⟨rI,rK,a0,a1,a2,a3,b0,b1,b2,b3,c0,c1,c2,c3⟩ ?rt20
 case hyt20=>(intro W2 hSw;(try dsimp only at hSw);go_simp;try with_reducible rfl)
 try simp only [Act.put,putL_a,putL_z,putL_s,putG_a,putG_s,putG_z]
 refine Zd (i:=21) (v:=?vt21) rfl (by kernel_rfl) (by kernel_rfl) (by kernel_rfl) (by kernel_rfl) (by kernel_rfl) (Or.inl ⟨by kernel_rfl,?hyt21⟩) ⟨rI,rK,a0,a1,a2,a3,b0,b1,b2,b3,c0,c1,c2,c3⟩ ?rt21
 case hyt21=>(intro W2 hSw;(try dsimp only at hSw);go_simp;try with_reducible rfl)
 try simp only [Act.put,putL_a,putL_z,putL_s,putG_a,putG_s,putG_z]
 refine Zd (i:=22) (v:=?vt22) rfl (by kernel_rfl) (by kernel_rfl) (by kernel_rfl) (by kernel_rfl) (by kernel_rfl) (Or.inl ⟨by kernel_rfl,?hyt22⟩) ⟨rI,rK,a0,a1,a2,a3,b0,b1,b2,b3,c0,c1,c2,c3⟩ ?rt22
 case hyt22=>(intro W2 hSw;(try dsimp only at hSw);go_simp;try with_reducible rfl)
 try simp only [Act.put,putL_a,putL_z,putL_s,putG_a,putG_s,putG_z]
 refine Zd (i:=23) (v:=?vt23) rfl (by kernel_rfl) (by kernel_rfl) (by kernel_rfl) (by kernel_rfl) (by kernel_rfl) (Or.inl ⟨by kernel_rfl,?hyt23⟩) ⟨rI,rK,a0,a1,a2,a3,b0,b1,b2,b3,c0,c1,c2,c3⟩ ?rt23
 case hyt23=>(intro W2 hSw;(try dsimp only at hSw);go_simp;try with_reducible rfl)
 try simp only [Act.put,putL_a,putL_z,putL_s,putG_a,putG_s,putG_z]
 refine Zd (i:=24) (v:=?vt24) rfl (by kernel_rfl) (by kernel_rfl) (by kernel_rfl) (by kernel_rfl) (by kernel_rfl) (Or.inl ⟨by kernel_rfl,?hyt24⟩) ⟨rI,rK,a0,a1,a2,a3,b0,b1,b2,b3,c0,c1,c2,c3⟩ ?rt24
 case hyt24=>(intro W2 hSw;(try dsimp only at hSw);go_simp;try with_reducible rfl)
 try simp only [Act.put,putL_a,putL_z,putL_s,putG_a,putG_s,putG_z]
 refine Zd (i:=25) (v:=?vt25) rfl (by kernel_rfl) (by kernel_rfl) (by kernel_rfl) (by kernel_rfl) (by kernel_rfl) (Or.inl ⟨by kernel_rfl,?hyt25⟩) ⟨rI,rK,a0,a1,a2,a3,b0,b1,b2,b3,c0,c1,c2,c3⟩ ?rt25
 case hyt25=>(intro W2 hSw;(try dsimp only at hSw);go_simp;try with_reducible rfl)
 try simp only [Act.put,putL_a,putL_z,putL_s,putG_a,putG_s,putG_z]
 refine Zd (i:=26) (v:=?vt26) rfl (by kernel_rfl) (by kernel_rfl) (by kernel_rfl) (by kernel_rfl) (by kernel_rfl) (Or.inl ⟨by kernel_rfl,?hyt26⟩) ⟨rI,rK,a0,a1,a2,a3,b0,b1,b2,b3,c0,c1,c2,c3⟩ ?rt26
 case hyt26=>(intro W2 hSw;(try dsimp only at hSw);go_simp;try with_reducible rfl)
 try simp only [Act.put,putL_a,putL_z,putL_s,putG_a,putG_s,putG_z]
 refine Zd (i:=27) (v:=?vt27) rfl (by kernel_rfl) (by kernel_rfl) (by kernel_rfl) (by kernel_rfl) (by kernel_rfl) (Or.inl ⟨by kernel_rfl,?hyt27⟩) ⟨rI,rK,a0,a1,a2,a3,b0,b1,b2,b3,c0,c1,c2,c3⟩ ?rt27
 case hyt27=>(intro W2 hSw;(try dsimp only at hSw);go_simp;try with_reducible rfl)
 try simp only [Act.put,putL_a,putL_z,putL_s,putG_a,putG_s,putG_z]
 refine Zd (i:=28) (v:=?vt28) rfl (by kernel_rfl) (by kernel_rfl) (by kernel_rfl) (by kernel_rfl) (by kernel_rfl) (Or.inl ⟨by kernel_rfl,?hyt28⟩) ⟨rI,rK,a0,a1,a2,a3,b0,b1,b2,b3,c0,c1,c2,c3⟩ ?rt28
 case hyt28=>(intro W2 hSw;(try dsimp only at hSw);go_simp;try with_reducible rfl)
 try simp only [Act.put,putL_a,putL_z,putL_s,putG_a,putG_s,putG_z]
 refine Ze (i:=14) rfl (by kernel_rfl) (fun K hK=>?_);go_simp;refine (Zcb an aA ak ac am aB aj ad an aA ak ac am aB aj ad _ _ w1.drew haf.out haf.out s1.out s1.out).mono ?_;rintro e w7 ⟨hbP,pn,pA,pk,pc,pm,pB,pj,pd,rfl,pf⟩;replace q0:=Za (Zc hbP q0.out);replace haf:=Za (haf.out.below hbP);replace hbf:=Za (hbf.out.below hbP);replace hcf:=Za (hcf.out.below hbP);have hB8:=Za (hB6.out.trans (hbP.mono hB6.out.size));clear hB6;replace rI:=Zb hbP rI;replace rK:=Zb hbP rK;replace a0:=Zb hbP a0;replace a1:=Zb hbP a1;replace a2:=Zb hbP a2;replace a3:=Zb hbP a3;replace b0:=Zb hbP b0;replace b1:=Zb hbP b1;replace b2:=Zb hbP b2;replace b3:=Zb hbP b3;replace c0:=Zb hbP c0;replace c1:=Zb hbP c1;replace c2:=Zb hbP c2;replace c3:=Zb hbP c3;clear hbP;replace pf:=Za pf;refine hK.out _ _ (fun _=>⟨rI,rK,a0,a1,a2,a3,b0,b1,b2,b3,c0,c1,c2,c3⟩) ?_;clear hK K
 try simp only [Act.put,putL_a,putL_z,putL_s,putG_a,putG_s,putG_z]
 refine Ze (i:=29) rfl (by kernel_rfl) (fun K hK=>?_);go_simp;refine (Zcb bn bA bk bc bm bB bj bd cn cA ck' cc cm cB cj cd _ _ w7 hbf.out hcf.out s2.out s3.out).mono ?_;rintro e w9 ⟨hbP,qn,qA,qk,qc,qm,qB,qj,qd,rfl,qf⟩;replace q0:=Za (Zc hbP q0.out);replace haf:=Za (haf.out.below hbP);replace hbf:=Za (hbf.out.below hbP);replace hcf:=Za (hcf.out.below hbP);replace pf:=Za (pf.out.below hbP);have hB10:=Za (hB8.out.trans (hbP.mono hB8.out.size));clear hB8;replace rI:=Zb hbP rI;replace rK:=Zb hbP rK;replace a0:=Zb hbP a0;replace a1:=Zb hbP a1;replace a2:=Zb hbP a2;replace a3:=Zb hbP a3;replace b0:=Zb hbP b0;replace b1:=Zb hbP b1;replace b2:=Zb hbP b2;replace b3:=Zb hbP b3;replace c0:=Zb hbP c0;replace c1:=Zb hbP c1;replace c2:=Zb hbP c2;replace c3:=Zb hbP c3;clear hbP;replace qf:=Za qf;refine hK.out _ _ (fun _=>⟨rI,rK,a0,a1,a2,a3,b0,b1,b2,b3,c0,c1,c2,c3⟩) ?_;clear hK K
 try simp only [Act.put,putL_a,putL_z,putL_s,putG_a,putG_s,putG_z]
 refine Ze (i:=30) rfl (by kernel_rfl) (fun K hK=>?_);go_simp;refine (Zgz pn pA pk pc pm pB pj pd qn qA qk qc qm qB qj qd _ _ w9 pf.out qf.out s4.out s5.out hyz.out).mono ?_;rintro e w11 ⟨hbP,vn,vA,vk,vc,vm,vB,vj,vd,rfl,vf⟩;replace q0:=Za (Zc hbP q0.out);replace haf:=Za (haf.out.below hbP);replace hbf:=Za (hbf.out.below hbP);replace hcf:=Za (hcf.out.below hbP);replace pf:=Za (pf.out.below hbP);replace qf:=Za (qf.out.below hbP);have hB12:=Za (hB10.out.trans (hbP.mono hB10.out.size));clear hB10;replace rI:=Zb hbP rI;replace rK:=Zb hbP rK;replace a0:=Zb hbP a0;replace a1:=Zb hbP a1;replace a2:=Zb hbP a2;replace a3:=Zb hbP a3;replace b0:=Zb hbP b0;replace b1:=Zb hbP b1;replace b2:=Zb hbP b2;replace b3:=Zb hbP b3;replace c0:=Zb hbP c0;replace c1:=Zb hbP c1;replace c2:=Zb hbP c2;replace c3:=Zb hbP c3;clear hbP;replace vf:=Za vf;refine hK.out _ _ (fun _=>⟨rI,rK,a0,a1,a2,a3,b0,b1,b2,b3,c0,c1,c2,c3⟩) ?_;clear hK K
 try simp only [Act.put,putL_a,putL_z,putL_s,putG_a,putG_s,putG_z]
 obtain ⟨d0,d1,d2,d3,f0,f1,f2,f3⟩:=q0.out.four;obtain ⟨W13,hW14,hBn15,qn16,kW17,kB18,sz19⟩:=Zv vn vA vk vc vm vB vj vd hB12.out (Nat.le_refl _) q0.out;refine Zp (i:=31) rfl (by kernel_rfl) (by kernel_rfl) (fun K hK=>?_);go_simp;(try rw [hW14]);refine hK.out _ _ ?_;clear hK K
 try simp only [Act.put,putL_a,putL_z,putL_s,putG_a,putG_s,putG_z]
 refine Zs (i:=32) (v:=?vz) rfl (by kernel_rfl) (by kernel_rfl) (by kernel_rfl) (by kernel_rfl) (Or.inl ⟨by kernel_rfl,?hyz⟩) (fun h=>by cases h) ?rz
 case hyz=>(intro W2 _;go_simp;try with_reducible rfl)
 try simp only [Act.put,putL_a,putL_z,putL_s,putG_a,putG_s,putG_z]
 refine Zj (by kernel_rfl) ?_ _;refine OnlyNormal.normal ?_;obtain ⟨r0,r1,r2,r3,-⟩:=qn16.four;have vf2:Hid (Fr W13 vn vA vk vc vm vB vj vd (x * x / (y * z))):=Za (Fr.keep vf.out kW17);go_wp2_with fail;refine bodyPost_ret (v:=.tuple #[.agg #[.bool vn,.slice vA vk vc,.bool vm,.slice vB vj vd],.int .i64 0]) (by simp [results,Tryz.results15,go_sem,r0,r1,r2,r3]) rfl ?_;exact ⟨hBn15,.inl ⟨hPE.out,_,_,_,_,_,_,_,_,rfl,by rw [hV.out];exact vf2.out⟩⟩
structure SolP (rs:List RX) (es:List FX) (X:Nat->Nat->Rat):Prop where
 s:∀ t i k,t <= rs.length->posP (Zg (Zap (qM rs) (es.map FX.q) rs.length)) t->i < rs.length->SmN 380 380 (Zl (Zg (Zap (qM rs) (es.map FX.q) rs.length)) t i k)
 l:∀ i k,k <= i->i < rs.length->posP (Zg (Zap (qM rs) (es.map FX.q) rs.length)) (k+1)->SmN 300 300 (lQ (Zg (Zap (qM rs) (es.map FX.q) rs.length)) i k)
 x:Zrf (fun i j=>Zl (Zg (Zap (qM rs) (es.map FX.q) rs.length)) i i j) X rs.length
 p:posP (Zg (Zap (qM rs) (es.map FX.q) rs.length)) rs.length
 sx:∀ i,Sm (Zej es i)
 sX:∀ i,Sm (X i rs.length)
 sp:∀ i,Sm (Zej es i * X i rs.length)
 ss:∀ i,i <= rs.length->Sm (Z4 i (fun i=>Zej es i * X i rs.length))
 v:Z4 rs.length (fun i=>Zej es i * X i rs.length)=Zht rs es
theorem Zk5 (A V:Option Addr) (n c nv cv:Nat) (rs:List RX) (es:List FX) (w:World) (h:MXL w A n c rs) (hF:FacC rs) (hv:FXL w V nv cv es) (hS:Zdj rs es=0->∃ X,SolP rs es X) :
    Calls Tryz.prog 13 #[.slice A n c,.slice V nv cv] w (FracPost (Zdj rs es) (Zht rs es) w):=by
 have hmx:Tryz.prog.follows .mixedOrders=true:=by kernel_rfl
 have hnl:=Za h.1;have hvl:=Za hv.1;have hnc:=h.2.1;have hcm:=h.2.2.1;have hnc2:=hv.2.1;have hcm2:=hv.2.2.1;unfold maxLen at hcm hcm2;obtain ⟨W0,hW0,hB0,q0,s0⟩:=Zaw w 29 #[.bool false,.slice none 0 0,.bool false,.slice none 0 0];obtain ⟨E,hE⟩:∃ E,Zar rs=E:=⟨_,rfl⟩;have hC:=Za (fun X (hx:MXL X A n c rs)=>Zfj A n c rs X hx hF E hE);have hH:=Za (h.below hB0);have hVH:=Za (hv.below hB0);replace hS:=Za hS;replace q0:=Za q0;replace hB0:=Za hB0;replace hE:=Za hE;clear h hF hv;replace s0:=Za s0;go_enter Tryz.func13,Tryz.ntmps13;go_wp2_with fail;(try rw [hW0]);clear hW0;refine (hC.out W0 hH.out).mono ?_;rintro e w1 ⟨rfl,hb1⟩;replace hH:=Za (hH.out.below hb1);replace hVH:=Za (hVH.out.below hb1);replace q0:=Za (Zc hb1 q0.out);have hB2:=Za (hB0.out.trans (hb1.mono hB0.out.size));clear hB0;clear hb1
 by_cases h0:E=0
 case neg =>
  have t1:(E == 0)=false:=by simpa using h0
  have t1':decide (E=0)=false:=by simpa using h0
  have t1'':(E != 0)=true:=by rw [bne,t1];rfl
  have hE0:=Za h0;have hPE:=Za (Zez (es:=es) hE.out h0);clear h0;go_wp2_with fail;refine (hC.out w1 hH.out).mono ?_;rintro e w3 ⟨rfl,hb1⟩;replace hH:=Za (hH.out.below hb1);replace hVH:=Za (hVH.out.below hb1);replace q0:=Za (Zc hb1 q0.out);have hB4:=Za (hB2.out.trans (hb1.mono hB2.out.size));clear hB2;clear hb1;obtain ⟨U,hU,hBU,q3,-,-,-⟩:=Zv false none 0 0 false none 0 0 hB4.out (Nat.le_refl _) q0.out;obtain ⟨r0,r1,r2,r3,-⟩:=q3.four;obtain ⟨d0,d1,d2,d3,f0,f1,f2,f3⟩:=q0.out.four;go_wp2_with fail;(try rw [hU]);refine bodyPost_ret (v:=.tuple #[.agg #[.bool false,.slice none 0 0,.bool false,.slice none 0 0],.int .i64 (E)]) (by simp [results,Tryz.results13,go_sem,r0,r1,r2,r3]) rfl ?_;exact FracPost.fall hBU hPE.out (by first | decide | exact hE0.out)
 have h0':Zar rs=0:=hE.out.trans h0;subst h0;obtain ⟨hcV,hcS,hcP⟩:=Zdx h0'
 have hn6:n <= 6:=by rw [<- hnl.out];exact hcV.facts.2.1
 have hn0:0 < n:=by rw [<- hnl.out];exact hcV.facts.1
 have hrow:=hcV.row hH.out;have hM:=Za (hcV.good hH.out);have h0:=Za h0';replace hrow:=Za hrow;clear hcV hcS hcP hC h0' hE;clear hH
 by_cases hnv:nv=n
 case neg =>
  have t1:((nv:Int) == (n:Int))=false:=by simp;omega
  have t1':decide ((nv:Int)=(n:Int))=false:=decide_eq_false (by omega);have t1'':decide (nv=n)=false:=decide_eq_false hnv
  have t1m:((nv:Int) != (n:Int))=true:=by rw [bne,t1];rfl
  have hPE:=Za (Zd3 (es:=es) h0.out (fun hh=>hnv (by rw [<- hvl.out,<- hnl.out];exact hh.1)));replace hnv:=Za hnv;obtain ⟨U,hU,hBU,q3,-,-,-⟩:=Zv false none 0 0 false none 0 0 hB2.out (Nat.le_refl _) q0.out;obtain ⟨r0,r1,r2,r3,-⟩:=q3.four;obtain ⟨d0,d1,d2,d3,f0,f1,f2,f3⟩:=q0.out.four;go_wp2_with fail;(try rw [hU]);refine bodyPost_ret (v:=.tuple #[.agg #[.bool false,.slice none 0 0,.bool false,.slice none 0 0],.int .i64 (8)]) (by simp [results,Tryz.results13,go_sem,r0,r1,r2,r3]) rfl ?_;exact FracPost.fall hBU hPE.out (by first | decide | exact hE0.out)
 subst hnv
 have t1:((nv:Int) == (nv:Int))=true:=by simp
 obtain ⟨b,hb⟩:∃ b,Zcf es=b:=⟨_,rfl⟩;have hCv:=Za (fun W1 (hx:FXL W1 V nv cv es)=>Zgx V nv cv es W1 hx b hb);replace hb:=Za hb;go_wp2_with fail;refine (hCv.out w1 hVH.out).mono ?_;rintro e w5 ⟨rfl,hb9⟩;replace hVH:=Za (hVH.out.below hb9);replace q0:=Za (Zc hb9 q0.out);replace hM:=Za (hM.out.below hb9);have hB6:=Za (hB2.out.trans (hb9.mono hB2.out.size));clear hB2;clear hb9
 cases b with
 | false =>
  have hPE:=Za (Zd3 (es:=es) h0.out (fun hh=>by rw [hb.out] at hh;exact absurd hh.2 (by decide)));obtain ⟨U,hU,hBU,q3,-,-,-⟩:=Zv false none 0 0 false none 0 0 hB6.out (Nat.le_refl _) q0.out;obtain ⟨r0,r1,r2,r3,-⟩:=q3.four;obtain ⟨d0,d1,d2,d3,f0,f1,f2,f3⟩:=q0.out.four;go_wp2_with fail;(try rw [hU]);refine bodyPost_ret (v:=.tuple #[.agg #[.bool false,.slice none 0 0,.bool false,.slice none 0 0],.int .i64 (8)]) (by simp [results,Tryz.results13,go_sem,r0,r1,r2,r3]) rfl ?_;exact FracPost.fall hBU hPE.out (by first | decide | exact hE0.out)
 | true =>
  have hPE:=Za (Znn (es:=es) h0.out ⟨by rw [hvl.out,hnl.out],hb.out⟩);obtain ⟨X,hX⟩:=hS.out hPE.out;have hFV:=Za (hVH.out.fl (Zkr hb.out));have hval:=hX.v;have hXs:=hX.s;have hXl:=hX.l;have hXx:=hX.x;have hXp:=hX.p;have hXss:=hX.ss;have hXsX:=hX.sX;have hXsp:=hX.sp;have hXsx:=Za hX.sx;rw [hnl.out] at hXs hXl hXx hXp hXss hXsX hXsp hval;obtain ⟨VV,hVV⟩:∃ v,Zht rs es=v:=⟨_,rfl⟩;rw [hVV] at hval;(try rw [hVV]);replace hVV:=Za hVV;replace hval:=Za hval;replace hXs:=Za hXs;replace hXl:=Za hXl;replace hXx:=Za hXx;replace hXp:=Za hXp;replace hXss:=Za hXss;replace hXsX:=Za hXsX;replace hXsp:=Za hXsp;clear hS hX;clear hVH;go_wp2_with fail;refine (Zh3 A nv c (qM rs) V cv (es.map FX.q) w5 hM.out hFV.out hn0 (by omega) hrow.out hXs.out hXl.out X (fun _=>hXx.out)).mono ?_;rintro e w7 ⟨hb1,hc⟩;replace q0:=Za (Zc hb1 q0.out);replace hM:=Za (hM.out.below hb1);replace hFV:=Za (hFV.out.below hb1);have hB8:=Za (hB6.out.trans (hb1.mono hB6.out.size));clear hB6;clear hb1
  rcases hc with ⟨-,yA,yc,rfl,hY⟩ | ⟨hno,rfl⟩
  case inr=>exact absurd hXp.out hno
  have hyc:=hY.cap;unfold maxLen at hyc;clear hXs hXl hXx hXp hrow;clear hM;replace hY:=Za hY;go_wp2_with fail;refine (Zic 0 w7 (by decide) (by decide)).mono ?_;rintro e w9 ⟨hbs,sn,sA,sk,sc,sm,sB,sj,sd,rfl,sf⟩;replace q0:=Za (Zc hbs q0.out);replace hFV:=Za (hFV.out.below hbs);replace hY:=Za (hY.out.below hbs);have hB10:=Za (hB8.out.trans (hbs.mono hB8.out.size));clear hB8;clear hbs;replace sf:=Za sf;have hY1:=hY;have hV1:=hFV;have hBw1:=hB10;have q01:=q0;clear hY hFV;obtain ⟨g11,hg12⟩:∃ g,w9.heap.size=g:=⟨_,rfl⟩;obtain ⟨V13,hV14,q15,hb16⟩:=Zae (w:=w9) 29 #[.bool sn,.slice sA sk sc,.bool sm,.slice sB sj sd];rw [hg12] at q15;have hbG:=Za hb16;replace q0:=Za (Zc hb16 q0.out);replace sf:=Za (sf.out.below hb16);have hB17:=Za (hB10.out.trans (hb16.mono hB10.out.size));clear hB10;clear hb16;replace q15:=Za q15;go_wp2_with fail;(try rw [hg12]);(try rw [hV14]);clear hV14;replace hg12:=Za hg12;have hgs:Hid (w9.heap.size <= g11):=Za (Nat.le_of_eq hg12.out);replace sf:Hid (Fr V13 sn sA sk sc sm sB sj sd (Z4 0 (fun i=>Zej es i * X i nv))):=Za sf.out;clear q0
  go_loopg [9] nv (fun t iv wr=>∃ (i:Nat) (sn:Bool) (sA:Option Addr) (sk sc:Nat) (sm:Bool) (sB:Option Addr) (sj sd:Nat),i+t=nv/\iv=.int .i64 i/\Hid (Blk wr g11 29 #[.bool sn,.slice sA sk sc,.bool sm,.slice sB sj sd])/\Hid (Fr wr sn sA sk sc sm sB sj sd (Z4 i (fun i=>Zej es i * X i nv)))/\Hid (Below w9.heap.size w9 wr))
  case atStart=>exact ⟨0,_,_,_,_,_,_,_,_,by omega,rfl,q15,sf,hbG⟩
  case round =>
   obtain ⟨wi,rfl⟩:∃ x:World,x=wr:=⟨_,rfl⟩;clear q15 sf hbG;obtain ⟨i,sn,sA,sk,sc,sm,sB,sj,sd,hit,rfl,qs,hs,hBi⟩:=hrel
   cases gk with
   | zero =>
    obtain rfl:i=nv:=by omega
    have t1:decide ((i:Int) < (i:Int))=false:=by simp
    have qR:=Zc hBi.out q01.out;obtain ⟨c0,c1,c2,c3,z0,z1,z2,z3⟩:=qR.four;obtain ⟨x0,x1,x2,x3,-⟩:=qs.out.four;have hBz:=hBw1.out.trans (hBi.out.mono hBw1.out.size);obtain ⟨W5,hW5,hB5,q5,kW,-,-⟩:=Zv sn sA sk sc sm sB sj sd hBz (Nat.le_refl _) qR;obtain ⟨r0,r1,r2,r3,-⟩:=q5.four;have vf2:Hid (Fr W5 sn sA sk sc sm sB sj sd VV):=Za (by have h9:=Fr.keep hs.out kW;rw [hval.out] at h9;exact h9);clear kW;go_wp2_with fail;(try rw [hW5]);refine bodyPost_ret (v:=.tuple #[.agg #[.bool sn,.slice sA sk sc,.bool sm,.slice sB sj sd],.int .i64 0]) (by simp [results,Tryz.results13,go_sem,r0,r1,r2,r3]) rfl ?_;exact ⟨hB5,.inl ⟨hPE.out,_,_,_,_,_,_,_,_,rfl,by rw [hVV.out];exact vf2.out⟩⟩
   | succ t' =>
    obtain rfl:t'=nv - (i+1):=by omega
    have hin:i < nv:=by omega
    have t1:decide ((i:Int) < (nv:Int))=true:=decide_eq_true (by omega);have t1n:decide (i < nv)=true:=decide_eq_true hin
    have bi:(i:Int) < (nv:Int):=by omega
    obtain ⟨gv,ov,fn,fA,fk,fc,fm,fB,fj,fd,rfl,⟨f0,f1,f2,f3⟩,hf⟩:=(hV1.out.below hBi.out).at_ hin;obtain ⟨gy,oy,yn,yA',yk,yc',ym,yB,yj,yd,rfl,⟨y0,y1,y2,y3⟩,hyf⟩:=(hY1.out.below hBi.out).at_ hin
    have ey:(((List.range nv).map fun i=>X i nv)[i]?.getD 0)=X i nv:=by simp [hin]
    rw [ey] at hyf;replace hf:Hid (Fr wi fn fA fk fc fm fB fj fd (Zej es i)):=Za hf;replace hyf:=Za hyf;clear ey;go_wp2_with fail;have cc501:wi.cell? ⟨g11,0,none⟩=some (.bool sn):=qs.out.cell 0;have cc502:wi.cell? ⟨g11,1,none⟩=some (.slice sA sk sc):=qs.out.cell 1;have cc503:wi.cell? ⟨g11,2,none⟩=some (.bool sm):=qs.out.cell 2;have cc504:wi.cell? ⟨g11,3,none⟩=some (.slice sB sj sd):=qs.out.cell 3;have hr505:Below wi.heap.size wi wi.drew:=Zi (Below.refl _ _) 1;replace hf:=Za (hf.out.below hr505);replace hyf:=Za (hyf.out.below hr505);replace hs:=Za (hs.out.below hr505);replace qs:=Za (Zc hr505 qs.out);have hB506:=Za (hBi.out.trans (hr505.mono hBi.out.size));clear hBi;replace f0:=Zb hr505 f0;replace f1:=Zb hr505 f1;replace f2:=Zb hr505 f2;replace f3:=Zb hr505 f3;replace y0:=Zb hr505 y0;replace y1:=Zb hr505 y1;replace y2:=Zb hr505 y2;replace y3:=Zb hr505 y3;replace cc501:=Zb hr505 cc501;replace cc502:=Zb hr505 cc502;replace cc503:=Zb hr505 cc503;replace cc504:=Zb hr505 cc504;clear hr505
    refine Z8 [11] (fun wx=>(wx.cell? ⟨gv,ov+i * 4,none⟩=some (.bool fn))/\(wx.cell? ⟨gv,ov+i * 4+1,none⟩=some (.slice fA fk fc))/\(wx.cell? ⟨gv,ov+i * 4+2,none⟩=some (.bool fm))/\(wx.cell? ⟨gv,ov+i * 4+3,none⟩=some (.slice fB fj fd))/\(wx.cell? ⟨gy,oy+i * 4,none⟩=some (.bool yn))/\(wx.cell? ⟨gy,oy+i * 4+1,none⟩=some (.slice yA' yk yc'))/\(wx.cell? ⟨gy,oy+i * 4+2,none⟩=some (.bool ym))/\(wx.cell? ⟨gy,oy+i * 4+3,none⟩=some (.slice yB yj yd))/\(wx.cell? ⟨g11,0,none⟩=some (.bool sn))/\(wx.cell? ⟨g11,1,none⟩=some (.slice sA sk sc))/\(wx.cell? ⟨g11,2,none⟩=some (.bool sm))/\(wx.cell? ⟨g11,3,none⟩=some (.slice sB sj sd))) hmx ⟨f0,f1,f2,f3,y0,y1,y2,y3,cc501,cc502,cc503,cc504⟩ (fun _=>?_);refine Zd (i:=0) (v:=?vt1) rfl (by kernel_rfl) (by kernel_rfl) (by kernel_rfl) (by kernel_rfl) (by kernel_rfl) (Or.inl ⟨by kernel_rfl,?hyt1⟩) ⟨f0,f1,f2,f3,y0,y1,y2,y3,cc501,cc502,cc503,cc504⟩ ?rt1
    case hyt1=>(intro W2 hSw;(try dsimp only at hSw);go_simp;try with_reducible rfl)
    try simp only [Act.put,putL_a,putL_z,putL_s,putG_a,putG_s,putG_z]
    refine Zd (i:=1) (v:=?vt2) rfl (by kernel_rfl) (by kernel_rfl) (by kernel_rfl) (by kernel_rfl) (by kernel_rfl) (Or.inl ⟨by kernel_rfl,?hyt2⟩) ⟨f0,f1,f2,f3,y0,y1,y2,y3,cc501,cc502,cc503,cc504⟩ ?rt2
    case hyt2=>(intro W2 hSw;(try dsimp only at hSw);go_simp;try with_reducible rfl)
    try simp only [Act.put,putL_a,putL_z,putL_s,putG_a,putG_s,putG_z]
    refine Zd (i:=2) (v:=?vt3) rfl (by kernel_rfl) (by kernel_rfl) (by kernel_rfl) (by kernel_rfl) (by kernel_rfl) (Or.inl ⟨by kernel_rfl,?hyt3⟩) ⟨f0,f1,f2,f3,y0,y1,y2,y3,cc501,cc502,cc503,cc504⟩ ?rt3
    case hyt3=>(intro W2 hSw;(try dsimp only at hSw);go_simp;try with_reducible rfl)
    try simp only [Act.put,putL_a,putL_z,putL_s,putG_a,putG_s,putG_z]
    refine Zd (i:=3) (v:=?vt4) rfl (by kernel_rfl) (by kernel_rfl) (by kernel_rfl) (by kernel_rfl) (by kernel_rfl) (Or.inl ⟨by kernel_rfl,?hyt4⟩) ⟨f0,f1,f2,f3,y0,y1,y2,y3,cc501,cc502,cc503,cc504⟩ ?rt4
    case hyt4=>(intro W2 hSw;(try dsimp only at hSw);go_simp;try with_reducible rfl)
    try simp only [Act.put,putL_a,putL_z,putL_s,putG_a,putG_s,putG_z]
    refine Zd (i:=4) (v:=?vt5) rfl (by kernel_rfl) (by kernel_rfl) (by kernel_rfl) (by kernel_rfl) (by kernel_rfl) (Or.inl ⟨by kernel_rfl,?hyt5⟩) ⟨f0,f1,f2,f3,y0,y1,y2,y3,cc501,cc502,cc503,cc504⟩ ?rt5
    case hyt5=>(intro W2 hSw;(try dsimp only at hSw);go_simp;try with_reducible rfl)
    try simp only [Act.put,putL_a,putL_z,putL_s,putG_a,putG_s,putG_z]
    refine Zd (i:=5) (v:=?vt6) rfl (by kernel_rfl) (by kernel_rfl) (by kernel_rfl) (by kernel_rfl) (by kernel_rfl) (Or.inl ⟨by kernel_rfl,?hyt6⟩) ⟨f0,f1,f2,f3,y0,y1,y2,y3,cc501,cc502,cc503,cc504⟩ ?rt6
    case hyt6=>(intro W2 hSw;(try dsimp only at hSw);go_simp;try with_reducible rfl)
    try simp only [Act.put,putL_a,putL_z,putL_s,putG_a,putG_s,putG_z]
    refine Zd (i:=6) (v:=?vt7) rfl (by kernel_rfl) (by kernel_rfl) (by kernel_rfl) (by kernel_rfl) (by kernel_rfl) (Or.inl ⟨by kernel_rfl,?hyt7⟩) ⟨f0,f1,f2,f3,y0,y1,y2,y3,cc501,cc502,cc503,cc504⟩ ?rt7
    case hyt7=>(intro W2 hSw;(try dsimp only at hSw);go_simp;try with_reducible rfl)
    try simp only [Act.put,putL_a,putL_z,putL_s,putG_a,putG_s,putG_z]
    refine Zd (i:=7) (v:=?vt8) rfl (by kernel_rfl) (by kernel_rfl) (by kernel_rfl) (by kernel_rfl) (by kernel_rfl) (Or.inl ⟨by kernel_rfl,?hyt8⟩) ⟨f0,f1,f2,f3,y0,y1,y2,y3,cc501,cc502,cc503,cc504⟩ ?rt8
    case hyt8=>(intro W2 hSw;(try dsimp only at hSw);go_simp;try with_reducible rfl)
    try simp only [Act.put,putL_a,putL_z,putL_s,putG_a,putG_s,putG_z]
    refine Zd (i:=8) (v:=?vt9) rfl (by kernel_rfl) (by kernel_rfl) (by kernel_rfl) (by kernel_rfl) (by kernel_rfl) (Or.inl ⟨by kernel_rfl,?hyt9⟩) ⟨f0,f1,f2,f3,y0,y1,y2,y3,cc501,cc502,cc503,cc504⟩ ?rt9
    case hyt9=>(intro W2 hSw;(try dsimp only at hSw);go_simp;try with_reducible rfl)
    try simp only [Act.put,putL_a,putL_z,putL_s,putG_a,putG_s,putG_z]
    refine Ze (i:=9) rfl (by kernel_rfl) (fun K hK=>?_);go_simp;refine (Zcb fn fA fk fc fm fB fj fd yn yA' yk yc' ym yB yj yd _ _ wi.drew hf.out hyf.out (hXsx.out i) (hXsX.out i)).mono ?_;rintro e w507 ⟨hbP,pn,pA,pk,pc,pm,pB,pj,pd,rfl,pf⟩;replace hf:=Za (hf.out.below hbP);replace hyf:=Za (hyf.out.below hbP);replace hs:=Za (hs.out.below hbP);replace qs:=Za (Zc hbP qs.out);have hB508:=Za (hB506.out.trans (hbP.mono hB506.out.size));clear hB506;replace f0:=Zb hbP f0;replace f1:=Zb hbP f1;replace f2:=Zb hbP f2;replace f3:=Zb hbP f3;replace y0:=Zb hbP y0;replace y1:=Zb hbP y1;replace y2:=Zb hbP y2;replace y3:=Zb hbP y3;replace cc501:=Zb hbP cc501;replace cc502:=Zb hbP cc502;replace cc503:=Zb hbP cc503;replace cc504:=Zb hbP cc504;clear hbP;replace pf:=Za pf;refine hK.out _ _ (fun _=>⟨f0,f1,f2,f3,y0,y1,y2,y3,cc501,cc502,cc503,cc504⟩) ?_;clear hK K
    try simp only [Act.put,putL_a,putL_z,putL_s,putG_a,putG_s,putG_z]
    refine Ze (i:=10) rfl (by kernel_rfl) (fun K hK=>?_);go_simp;refine (Zhf sn sA sk sc sm sB sj sd pn pA pk pc pm pB pj pd _ _ w507 hs.out pf.out (hXss.out i (by omega)) (hXsp.out i)).mono ?_;rintro e w509 ⟨hbP,rn,rA,rk,rc,rm,rB,rj,rd,rfl,rf⟩;replace hf:=Za (hf.out.below hbP);replace hyf:=Za (hyf.out.below hbP);replace hs:=Za (hs.out.below hbP);replace qs:=Za (Zc hbP qs.out);replace pf:=Za (pf.out.below hbP);have hB510:=Za (hB508.out.trans (hbP.mono hB508.out.size));clear hB508;replace f0:=Zb hbP f0;replace f1:=Zb hbP f1;replace f2:=Zb hbP f2;replace f3:=Zb hbP f3;replace y0:=Zb hbP y0;replace y1:=Zb hbP y1;replace y2:=Zb hbP y2;replace y3:=Zb hbP y3;replace cc501:=Zb hbP cc501;replace cc502:=Zb hbP cc502;replace cc503:=Zb hbP cc503;replace cc504:=Zb hbP cc504;clear hbP;replace rf:=Za rf;refine hK.out _ _ (fun _=>⟨f0,f1,f2,f3,y0,y1,y2,y3,cc501,cc502,cc503,cc504⟩) ?_;clear hK K
    try simp only [Act.put,putL_a,putL_z,putL_s,putG_a,putG_s,putG_z]
    obtain ⟨d0,d1,d2,d3,z0,z1,z2,z3⟩:=qs.out.four;obtain ⟨W511,hW512,hBn513,qn514,kW515,kB516,sz517⟩:=Zv rn rA rk rc rm rB rj rd hB510.out hgs.out qs.out;refine Zp (i:=11) rfl (by kernel_rfl) (by kernel_rfl) (fun K hK=>?_);go_simp;(try rw [hW512]);refine hK.out _ _ ?_;clear hK K
    try simp only [Act.put,putL_a,putL_z,putL_s,putG_a,putG_s,putG_z]
    refine Zj (by kernel_rfl) ?_ _;refine OnlyNormal.normal ?_;have rf2:Hid (Fr W511 rn rA rk rc rm rB rj rd (Z4 (i+1) (fun i=>Zej es i * X i nv))):=Za (Fr.keep rf.out kW515);replace qn514:=Za qn514;replace hBn513:=Za hBn513;have hiw:IntKind.i64.wrap ((i:Int)+1)=(i:Int)+1:=IntWalk.i64_in _ (by omega);clear kW515 kB516 sz517 hf hyf hs qs pf rf;go_wp2_with fail
    go_roundg (nv - (i+1))
    case measure=>omega
    case rel=>exact ⟨i+1,_,_,_,_,_,_,_,_,by omega,by go_num,qn514,rf2,hBn513⟩
def calmC (r:RX):Prop:=∀ e ∈ r.es,e.few <= 4 \/ 64 < e.few
def calmX (rs:List RX):Prop:=(rs.length <= 4 \/ 6 < rs.length)/\rs.length <= 10/\Zmz 4 rs
theorem Zhk (A:Option Addr) (n c:Nat) (rs:List RX) (w:World) (h:MXL w A n c rs) :
    Calls Tryz.prog 11 #[.slice A n c] w fun e w'=>∃ b,e=.returned (.bool b)/\Below w.heap.size w w'/\(b=false->calmX rs):=by
 have hl:=h.1;have hnc:=h.2.1;have hcm:=h.2.2.1;unfold maxLen at hcm;replace h:=Za h;replace hl:=Za hl;go_enter Tryz.func11,Tryz.ntmps11;go_wp2_with fail
 go_loopg [3] n (fun k iv wr=>∃ i:Nat,i+k=n/\i <= 10/\iv=.int .i64 i/\Hid (∀ a r,a < i->rs[a]?=some r->calmC r)/\Below w.heap.size w wr)
 case atStart=>exact ⟨0,by omega,by omega,rfl,Za (fun a r ha=>by omega),Below.refl _ _⟩
 case round =>
  obtain ⟨w0,rfl⟩:∃ x:World,x=wr:=⟨_,rfl⟩;obtain ⟨i,hik,hi10,rfl,hc,hB⟩:=hrel
  by_cases hin:i < n
  case neg =>
   have t1:decide ((i:Int) < (n:Int))=false:=decide_eq_false (by omega)
   have hn10:n <= 10:=by omega
   have hcc:Hid (Zmz 4 rs):=Za (fun r hr=>by
    obtain ⟨a,ha,e⟩:=List.getElem_of_mem hr
    exact hc.out a r (by rw [hl.out] at ha;omega) (by rw [List.getElem?_eq_getElem ha,e]))
   by_cases h4:4 < n
   ·have u4:decide ((4:Int) < (n:Int))=true:=decide_eq_true (by omega)
    by_cases h6:n <= 6
    ·have u6:decide ((n:Int) <= 6)=true:=decide_eq_true (by omega)
     go_wp2_with fail;go_ret;exact ⟨_,rfl,hB,fun hf=>absurd hf (by decide)⟩
    ·have u6:decide ((n:Int) <= 6)=false:=decide_eq_false (by omega)
     have u10:decide ((10:Int) < (n:Int))=false:=decide_eq_false (by omega);go_wp2_with fail;go_ret;exact ⟨_,rfl,hB,fun _=>⟨.inr (by rw [hl.out];omega),by rw [hl.out];exact hn10,hcc.out⟩⟩
   ·have u4:decide ((4:Int) < (n:Int))=false:=decide_eq_false (by omega)
    have u10:decide ((10:Int) < (n:Int))=false:=decide_eq_false (by omega);go_wp2_with fail;go_ret;exact ⟨_,rfl,hB,fun _=>⟨.inl (by rw [hl.out];omega),by rw [hl.out];exact hn10,hcc.out⟩⟩
  have t1:decide ((i:Int) < (n:Int))=true:=decide_eq_true (by omega)
  by_cases hi10':i < 10
  case neg =>
   have t2:decide ((i:Int) < 10)=false:=decide_eq_false (by omega);have t2':decide (i < 10)=false:=decide_eq_false (by omega);have u4:decide ((4:Int) < (n:Int))=true:=decide_eq_true (by omega);have u6:decide ((n:Int) <= 6)=false:=decide_eq_false (by omega);have u10:decide ((10:Int) < (n:Int))=true:=decide_eq_true (by omega);go_wp2_with fail;go_ret;exact ⟨_,rfl,hB,fun hf=>absurd hf (by decide)⟩
  have t2:decide ((i:Int) < 10)=true:=decide_eq_true (by omega);have t2':decide (i < 10)=true:=decide_eq_true (by omega);obtain ⟨gk',rfl⟩:∃ j,gk=j+1:=⟨gk - 1,by omega⟩
  obtain rfl:gk'=n - (i+1):=by omega
  have bi:(i:Int) < (n:Int):=by omega
  obtain ⟨g,o,⟨rA,rn,rc,es⟩,rfl,hr,k0,hF⟩:=(h.out.below hB).at_ hin;simp only at k0 hF;have hrl:=Nat.le_trans hF.2.1 hF.2.2.1;unfold maxLen at hrl;have hes:Hid (es.length=rn):=Za hF.1;have hrowF:=Za hF;replace hr:=Za hr;clear hF
  by_cases h4:4 < rn
  ·have u4:decide ((4:Int) < (rn:Int))=true:=decide_eq_true (by omega)
   by_cases h6:rn <= 6
   ·have u6:decide ((rn:Int) <= 6)=true:=decide_eq_true (by omega)
    go_wp2_with fail;go_ret;exact ⟨_,rfl,hB,fun hf=>absurd hf (by decide)⟩
   have u6:decide ((rn:Int) <= 6)=false:=decide_eq_false (by omega)
   by_cases h10:10 < rn
   ·have u10:decide ((10:Int) < (rn:Int))=true:=decide_eq_true (by omega)
    go_wp2_with fail;go_ret;exact ⟨_,rfl,hB,fun hf=>absurd hf (by decide)⟩
   have u10:decide ((10:Int) < (rn:Int))=false:=decide_eq_false (by omega);go_wp2_with fail
   go_loopg [4] rn (fun k iv wr=>∃ j:Nat,j+k=rn/\iv=.int .i64 j/\Hid (∀ a e,a < j->es[a]?=some e->e.few <= 4 \/ 64 < e.few)/\Below w0.heap.size w0 wr)
   case atStart=>exact ⟨0,by omega,rfl,Za (fun a e ha=>by omega),Below.refl _ _⟩
   case round =>
    obtain ⟨wx,rfl⟩:∃ x:World,x=wr:=⟨_,rfl⟩;obtain ⟨j,hjk,rfl,hce,hB2⟩:=hrel;have k1:=Zb hB2 k0;have hBx:=Za (hB.trans (hB2.mono hB.size))
    cases gk with
    | zero =>
     obtain rfl:rn=j:=by omega
     have t3:decide ((rn:Int) < (rn:Int))=false:=by simp
     have hc2:Hid (∀ a x,a < i+1->rs[a]?=some x->calmC x):=Za (fun a x ha hx=>by
      by_cases he:a=i
      ·subst he
       rw [hr.out] at hx
       cases hx
       intro e he;obtain ⟨t,ht,hte⟩:=List.getElem_of_mem he;exact hce.out t e (by rw [hes.out] at ht;exact ht) (by rw [List.getElem?_eq_getElem ht,hte])
      ·exact hc.out a x (by omega) hx)
     go_wp2_with fail
     go_roundg (n - (i+1))
     case measure=>omega
     case rel=>exact ⟨i+1,by omega,by omega,by go_num,hc2,hBx.out⟩
    | succ gk' =>
     obtain rfl:gk'=rn - (j+1):=by omega
     have hjn:j < rn:=by omega
     have t3:decide ((j:Int) < (rn:Int))=true:=decide_eq_true (by omega)
     have bj:(j:Int) < (rn:Int):=by omega
     obtain ⟨g2,o2,e,hA2,hee,⟨c0,c1,c2,c3⟩,hLa,hLb⟩:=(hrowF.out.below hB2).at_ hjn;rw [hA2] at k1;replace hA2:=Za hA2;have hn1:=Nat.le_trans hLa.2.1 hLa.2.2.1;have hm1:=Nat.le_trans hLb.2.1 hLb.2.2.1;have hFw:=Za (fun W1=>Zl9 e.na e.nb e.A e.B e.n e.c e.m e.d W1 hn1 hm1);obtain ⟨f,hf⟩:∃ f,max e.n e.m=f:=⟨_,rfl⟩
     have hff:f <= 9223372036854775807:=by unfold maxLen at hn1 hm1;omega
     rw [hf] at hFw;have hfe:Hid (e.few=f):=Za hf;replace hee:=Za hee;replace hf:=Za hf;clear hLa hLb hn1 hm1;go_wp2_with fail;refine (hFw.out _).mono ?_;rintro e2 w5 ⟨rfl,hb5⟩;have hB5:=hB2.trans (hb5.mono hB2.size);have hB6:=Za (hBx.out.trans (hb5.mono hBx.out.size));clear c0 c1 c2 c3 k1
     by_cases f4:4 < f
     ·have x4:decide ((4:Int) < (f:Int))=true:=decide_eq_true (by omega)
      by_cases f64:f <= 64
      ·have x64:decide ((f:Int) <= 64)=true:=decide_eq_true (by omega)
       go_wp2_with fail;go_ret;exact ⟨_,rfl,hB6.out,fun hf=>absurd hf (by decide)⟩
      have x64:decide ((f:Int) <= 64)=false:=decide_eq_false (by omega)
      by_cases f70:70 < f
      ·have x70:decide ((70:Int) < (f:Int))=true:=decide_eq_true (by omega)
       go_wp2_with fail;go_ret;exact ⟨_,rfl,hB6.out,fun hf=>absurd hf (by decide)⟩
      have x70:decide ((70:Int) < (f:Int))=false:=decide_eq_false (by omega)
      have hce2:Hid (∀ a e,a < j+1->es[a]?=some e->e.few <= 4 \/ 64 < e.few):=Za (fun a x ha hx=>by
       by_cases he:a=j
       ·subst he
        rw [hee.out] at hx
        cases hx
        rw [hfe.out];omega
       ·exact hce.out a x (by omega) hx)
      go_wp2_with fail
      go_roundg (rn - (j+1))
      case measure=>omega
      case rel=>exact ⟨j+1,by omega,by go_num,hce2,hB5⟩
     ·have x4:decide ((4:Int) < (f:Int))=false:=decide_eq_false (by omega)
      have x70:decide ((70:Int) < (f:Int))=false:=decide_eq_false (by omega)
      have hce2:Hid (∀ a e,a < j+1->es[a]?=some e->e.few <= 4 \/ 64 < e.few):=Za (fun a x ha hx=>by
       by_cases he:a=j
       ·subst he
        rw [hee.out] at hx
        cases hx
        rw [hfe.out];omega
       ·exact hce.out a x (by omega) hx)
      go_wp2_with fail
      go_roundg (rn - (j+1))
      case measure=>omega
      case rel=>exact ⟨j+1,by omega,by go_num,hce2,hB5⟩
  ·have u4:decide ((4:Int) < (rn:Int))=false:=decide_eq_false (by omega)
   have u10:decide ((10:Int) < (rn:Int))=false:=decide_eq_false (by omega);go_wp2_with fail
   go_loopg [4] rn (fun k iv wr=>∃ j:Nat,j+k=rn/\iv=.int .i64 j/\Hid (∀ a e,a < j->es[a]?=some e->e.few <= 4 \/ 64 < e.few)/\Below w0.heap.size w0 wr)
   case atStart=>exact ⟨0,by omega,rfl,Za (fun a e ha=>by omega),Below.refl _ _⟩
   case round =>
    obtain ⟨wx,rfl⟩:∃ x:World,x=wr:=⟨_,rfl⟩;obtain ⟨j,hjk,rfl,hce,hB2⟩:=hrel;have k1:=Zb hB2 k0;have hBx:=Za (hB.trans (hB2.mono hB.size))
    cases gk with
    | zero =>
     obtain rfl:rn=j:=by omega
     have t3:decide ((rn:Int) < (rn:Int))=false:=by simp
     have hc2:Hid (∀ a x,a < i+1->rs[a]?=some x->calmC x):=Za (fun a x ha hx=>by
      by_cases he:a=i
      ·subst he
       rw [hr.out] at hx
       cases hx
       intro e he;obtain ⟨t,ht,hte⟩:=List.getElem_of_mem he;exact hce.out t e (by rw [hes.out] at ht;exact ht) (by rw [List.getElem?_eq_getElem ht,hte])
      ·exact hc.out a x (by omega) hx)
     go_wp2_with fail
     go_roundg (n - (i+1))
     case measure=>omega
     case rel=>exact ⟨i+1,by omega,by omega,by go_num,hc2,hBx.out⟩
    | succ gk' =>
     obtain rfl:gk'=rn - (j+1):=by omega
     have hjn:j < rn:=by omega
     have t3:decide ((j:Int) < (rn:Int))=true:=decide_eq_true (by omega)
     have bj:(j:Int) < (rn:Int):=by omega
     obtain ⟨g2,o2,e,hA2,hee,⟨c0,c1,c2,c3⟩,hLa,hLb⟩:=(hrowF.out.below hB2).at_ hjn;rw [hA2] at k1;replace hA2:=Za hA2;have hn1:=Nat.le_trans hLa.2.1 hLa.2.2.1;have hm1:=Nat.le_trans hLb.2.1 hLb.2.2.1;have hFw:=Za (fun W1=>Zl9 e.na e.nb e.A e.B e.n e.c e.m e.d W1 hn1 hm1);obtain ⟨f,hf⟩:∃ f,max e.n e.m=f:=⟨_,rfl⟩
     have hff:f <= 9223372036854775807:=by unfold maxLen at hn1 hm1;omega
     rw [hf] at hFw;have hfe:Hid (e.few=f):=Za hf;replace hee:=Za hee;replace hf:=Za hf;clear hLa hLb hn1 hm1;go_wp2_with fail;refine (hFw.out _).mono ?_;rintro e2 w5 ⟨rfl,hb5⟩;have hB5:=hB2.trans (hb5.mono hB2.size);have hB6:=Za (hBx.out.trans (hb5.mono hBx.out.size));clear c0 c1 c2 c3 k1
     by_cases f4:4 < f
     ·have x4:decide ((4:Int) < (f:Int))=true:=decide_eq_true (by omega)
      by_cases f64:f <= 64
      ·have x64:decide ((f:Int) <= 64)=true:=decide_eq_true (by omega)
       go_wp2_with fail;go_ret;exact ⟨_,rfl,hB6.out,fun hf=>absurd hf (by decide)⟩
      have x64:decide ((f:Int) <= 64)=false:=decide_eq_false (by omega)
      by_cases f70:70 < f
      ·have x70:decide ((70:Int) < (f:Int))=true:=decide_eq_true (by omega)
       go_wp2_with fail;go_ret;exact ⟨_,rfl,hB6.out,fun hf=>absurd hf (by decide)⟩
      have x70:decide ((70:Int) < (f:Int))=false:=decide_eq_false (by omega)
      have hce2:Hid (∀ a e,a < j+1->es[a]?=some e->e.few <= 4 \/ 64 < e.few):=Za (fun a x ha hx=>by
       by_cases he:a=j
       ·subst he
        rw [hee.out] at hx
        cases hx
        rw [hfe.out];omega
       ·exact hce.out a x (by omega) hx)
      go_wp2_with fail
      go_roundg (rn - (j+1))
      case measure=>omega
      case rel=>exact ⟨j+1,by omega,by go_num,hce2,hB5⟩
     ·have x4:decide ((4:Int) < (f:Int))=false:=decide_eq_false (by omega)
      have x70:decide ((70:Int) < (f:Int))=false:=decide_eq_false (by omega)
      have hce2:Hid (∀ a e,a < j+1->es[a]?=some e->e.few <= 4 \/ 64 < e.few):=Za (fun a x ha hx=>by
       by_cases he:a=j
       ·subst he
        rw [hee.out] at hx
        cases hx
        rw [hfe.out];omega
       ·exact hce.out a x (by omega) hx)
      go_wp2_with fail
      go_roundg (rn - (j+1))
      case measure=>omega
      case rel=>exact ⟨j+1,by omega,by go_num,hce2,hB5⟩
section
variable {Q:List (List Rat)} {xs:List Rat} {n:Nat}
theorem Zrc (hm:∀ i,i < n->(Q[i]?.getD []).length=n) {t i k:Nat} (ht:t <= n) (hi:i < n) (hk:k < n):Zl (Zg (Zap Q xs n)) t i k=Zl (Zg Q) t i k:=
 Zb0 (n:=n) (m:=n) (fun _ _ hi hk=>Zd5 hm hi hk) (Nat.le_refl _) t i k ht hi hk
theorem Zml (hm:∀ i,i < n->(Q[i]?.getD []).length=n) {t:Nat} (ht:t < n):dQ (Zg (Zap Q xs n)) t=dQ (Zg Q) t:=Zrc hm (by omega) ht ht
theorem Znp (hm:∀ i,i < n->(Q[i]?.getD []).length=n) {t:Nat} (ht:t <= n):posP (Zg (Zap Q xs n)) t ↔ posP (Zg Q) t:=
 ⟨fun h s hs=>by rw [<- Zml (xs:=xs) hm (show s < n by omega)];exact h s hs,fun h s hs=>by rw [Zml hm (show s < n by omega)];exact h s hs⟩
theorem wide_lq (hm:∀ i,i < n->(Q[i]?.getD []).length=n) {i k:Nat} (hi:i < n) (hk:k < n):lQ (Zg (Zap Q xs n)) i k=lQ (Zg Q) i k:=by unfold lQ;rw [Zml hm hk,Zrc hm (by omega) hi hk]
theorem Zs1 (hm:∀ i,i < n->(Q[i]?.getD []).length=n) {t i k:Nat} (ht:t <= n) (hi:i < n) (hk:k < n+1):Zl (Zg (Zap Q xs n)) t i k=Zl (brd (Zg Q) (fun i=>xs[i]?.getD 0) n) t i k:=
 Zb0 (n:=n) (m:=n+1) (fun i k hi hk=>by
  unfold brd;rw [if_pos hi]
  by_cases h:k < n
  ·rw [if_pos h];exact Zd5 hm hi h
  ·obtain rfl:k=n:=by omega
   rw [if_neg h];exact Zfd hm hi) (Nat.le_succ _) t i k ht hi hk
theorem wide_sm {k:Nat} (hm:∀ i,i < n->(Q[i]?.getD []).length=n) (h:SmE k Q) (hx:∀ i:Nat,LeN k (xs[i]?.getD 0)):SmE k (Zap Q xs n):=fun i j=>by
 by_cases hi:i < n
 ·by_cases hj:j < n
  ·rw [Zd5 hm hi hj];exact h i j
  ·by_cases hj2:j=n
   ·subst hj2;rw [Zfd hm hi];exact hx i
   ·rw [Zkk hm hi (by omega)];exact ⟨Nat.zero_le _,Zb2 _⟩
 ·have e:Zg (Zap Q xs n) i j=0:=by
    unfold Zg;rw [List.getElem?_eq_none (l:=Zap Q xs n) (by rw [Zd6];omega)];rfl
  rw [e];exact ⟨Nat.zero_le _,Zb2 _⟩
theorem LeN.smN {k:Nat} {q:Rat} (h:LeN k q):SmN (k+1) (k+1) q:=⟨Nat.lt_of_le_of_lt h.1 (Zc4 (by omega)),Nat.lt_of_le_of_lt h.2 (Zc4 (by omega))⟩
theorem LeN.mono {i j:Nat} {q:Rat} (h:LeN i q) (hij:i <= j):LeN j q:=⟨Nat.le_trans h.1 (Zdh hij),Nat.le_trans h.2 (Zdh hij)⟩
theorem Zum {x y:Nat->Rat} (hx:∀ i,SmN 5 5 (x i)) (hy:∀ i,SmN 101 101 (y i)):∀ n,n <= 4->SmN (1+n * 107+106) (1+n * 106) (Z4 n fun i=>x i * y i)
 | 0,_=>(SmN.zeroC 0 0).mono (by decide) (by decide)
 | n+1,h=>by
  have h1:=Zum hx hy n (by omega);have h2:=(hx n).mulN (hy n);have h3:=h1.add h2;exact h3.mono (by omega) (by omega)
end
theorem solP_of {A V:Option Addr} {n c nv cv:Nat} {rs:List RX} {es:List FX} {w:World} (h:MXL w A n c rs) (hv:FXL w V nv cv es) (hf:Zmz 4 rs) (hn4:n <= 4) (hx:∀ e ∈ es,e.few <= 4 \/ 64 < e.few) (h0:Zdj rs es=0):∃ X,SolP rs es X:=by
 have hE:Zar rs=0:=by
  by_cases e:Zar rs=0
  ·exact e
  ·rw [Zez rfl e] at h0;exact absurd h0 e
 have hb:es.length=rs.length/\Zcf es=true:=by
  by_cases e:es.length=rs.length/\Zcf es=true
  ·exact e
  ·rw [Zd3 hE e] at h0;exact absurd h0 (by decide)
 obtain ⟨hcV,hcS,hcP⟩:=Zdx hE;have hnl:rs.length=n:=h.1;have hm:=hcV.row h;have hS4:=hcV.small h hf
 have hql:(qM rs).length=n:=by unfold qM;rw [List.length_map];exact hnl
 have hsym:∀ i k,i < n->k < n->Zg (qM rs) i k=Zg (qM rs) k i:=fun i k hi hk=>symB_iff.1 hcS i k (by omega) (by omega)
 have hn0:0 < n:=by rw [<- hnl];exact hcV.facts.1
 have hxs:∀ i:Nat,LeN 4 ((es.map FX.q)[i]?.getD 0):=fun i=>by
  rw [List.getElem?_map]
  cases e:es[i]? with
  | none=>exact ⟨Nat.zero_le _,Zb2 _⟩
  | some f =>
   have hmem:=List.mem_of_getElem? e;have h64:f.fine64=true:=List.all_eq_true.1 hb.2 f hmem;unfold FX.fine64 at h64;rw [Bool.and_eq_true,decide_eq_true_eq] at h64
   have h4:f.few <= 4:=by
    rcases hx f hmem with h | h
    ·exact h
    ·omega
   exact Zjq (hv.2.2.2.1 f hmem) h64.2 h4
 have hW:=wide_sm (xs:=es.map FX.q) hm hS4 hxs
 have hrow:∀ i,i < n->((Zap (qM rs) (es.map FX.q) n)[i]?.getD []).length=n+1:=fun i hi=>Zij hm hi
 rw [hnl] at hcP;have hp:posP (Zg (Zap (qM rs) (es.map FX.q) n)) n:=(Znp hm (Nat.le_refl n)).2 hcP;have hF:=hcV.fac h hcS hf (k:=4) (by rcases (show n=1 \/ n=2 \/ n=3 \/ n=4 by omega) with rfl | rfl | rfl | rfl <;> decide);obtain ⟨X,hX,hXs,hXv⟩:=Zp5 (n:=n) hW Zd6 (by omega) hrow (by rcases (show n=1 \/ n=2 \/ n=3 \/ n=4 by omega) with rfl | rfl | rfl | rfl <;> decide) (by decide) (by rcases (show n=1 \/ n=2 \/ n=3 \/ n=4 by omega) with rfl | rfl | rfl | rfl <;> decide) hp (fun i k hi hk=>by rw [Zd5 hm hi hk,Zd5 hm hk hi];exact hsym i k hi hk)
 have hX1:∀ i,SmN 101 101 (X i n):=fun i=>((hXs i).mono (j:=100) (by rcases (show n=1 \/ n=2 \/ n=3 \/ n=4 by omega) with rfl | rfl | rfl | rfl <;> decide)).smN
 have hx1:∀ i,SmN 5 5 (Zej es i):=fun i=>(hxs i).smN
 have hsum:∀ m,m <= n->SmN 700 700 (Z4 m fun i=>Zej es i * X i n):=fun m hm2=>(Zum hx1 hX1 m (by omega)).mono (by omega) (by omega)
 refine ⟨X,?_⟩
 have hval:Z4 n (fun i=>Zej es i * X i n)=bil (Zg (qM rs)) n (Zej es) (Zej es):=by
  rw [Zux]
  have e1:Zhr (brd (Zg (qM rs)) (Zej es) n) n n=Zhr (Zg (Zap (qM rs) (es.map FX.q) n)) n n:=by
   unfold Zhr
   refine Zx fun s hs=>?_
   have e2:Zl (Zg (Zap (qM rs) (es.map FX.q) n)) s s n=Zl (brd (Zg (qM rs)) (Zej es) n) s s n:=Zs1 hm (by omega) hs (by omega);rw [e2,Zod _ hs,Zml hm hs]
  rw [e1,<- hXv]
  refine Zx fun i hi=>?_
  rw [Zfd hm hi];rfl
 constructor <;> (try rw [hnl])
 ·intro t i k ht hpt hi
  exact (hW.red2 Zd6 (by omega) hrow ht (by omega) hpt hi k).mono (by rcases (show n=1 \/ n=2 \/ n=3 \/ n=4 by omega) with rfl | rfl | rfl | rfl <;> decide) (by rcases (show n=1 \/ n=2 \/ n=3 \/ n=4 by omega) with rfl | rfl | rfl | rfl <;> decide)
 ·intro i k hki hi hpk
  rw [wide_lq hm hi (by omega)];exact hF.l i k hki hi ((Znp hm (by omega)).1 hpk)
 ·exact hX
 ·exact hp
 ·exact fun i=>(hx1 i).sm (by decide) (by decide)
 ·exact fun i=>(hX1 i).sm (by decide) (by decide)
 ·exact fun i=>((hx1 i).mulN (hX1 i)).sm (by decide) (by decide)
 ·exact fun i hi=>(hsum i hi).sm (by decide) (by decide)
 ·rw [hval];unfold Zht;rw [hnl]
theorem Zu1 {A V:Option Addr} {n c nv cv:Nat} {rs:List RX} {es:List FX} {w:World} (h:MXL w A n c rs) (hv:FXL w V nv cv es) (hf:Zmz 4 rs) (hn4:n <= 4) (hx:∀ e ∈ es,e.few <= 4 \/ 64 < e.few) (h0:Zdj rs es=0):Zlv (Zg (qM rs)) rs.length (Zej es):=by
 have hE:Zar rs=0:=by
  by_cases e:Zar rs=0
  ·exact e
  ·rw [Zez rfl e] at h0;exact absurd h0 e
 have hb:es.length=rs.length/\Zcf es=true:=by
  by_cases e:es.length=rs.length/\Zcf es=true
  ·exact e
  ·rw [Zd3 hE e] at h0;exact absurd h0 (by decide)
 obtain ⟨hcV,hcS,hcP⟩:=Zdx hE;have hnl:rs.length=n:=h.1
 have hn0:0 < n:=by rw [<- hnl];exact hcV.facts.1
 have hS4:=hcV.small h hf;have hF:=hcV.fac h hcS hf (k:=4) (by rcases (show n=1 \/ n=2 \/ n=3 \/ n=4 by omega) with rfl | rfl | rfl | rfl <;> decide);rw [hnl] at hcP ⊢;refine Zp0 (by omega) hF (fun i j _ _=>LeN.mono (hS4 i j) (by decide)) (fun i _=>?_) hcP;unfold Zej;rw [List.getElem?_map]
 cases e:es[i]? with
 | none=>exact ⟨Nat.zero_le _,Zb2 _⟩
 | some f =>
  have hmem:=List.mem_of_getElem? e;have h64:f.fine64=true:=List.all_eq_true.1 hb.2 f hmem;unfold FX.fine64 at h64;rw [Bool.and_eq_true,decide_eq_true_eq] at h64
  have h4:f.few <= 4:=by
   rcases hx f hmem with h | h
   ·exact h
   ·omega
  exact LeN.mono (Zjq (hv.2.2.2.1 f hmem) h64.2 h4) (by decide)
theorem smN_of {A:Option Addr} {n c:Nat} {rs:List RX} {w:World} (h:MXL w A n c rs) (hf:Zmz 4 rs) (h0:Zar rs=0):∀ a b,SmN 5 5 (Zg (qM rs) a b):=fun a b=>by
 have h4:=(Zdx h0).1.small h hf a b;exact ⟨Nat.lt_of_le_of_lt h4.1 (Zc4 (by decide)),Nat.lt_of_le_of_lt h4.2 (Zc4 (by decide))⟩
def pA (E:Int) (z:Int):Bool:=if E=0 then decide (z < 0) else false
def pL (E:Int) (z:Int):List Nat:=if E=0 then digits z.natAbs else []
theorem Zhw (w:World):Lim w none 0 0 []:=⟨rfl,Nat.le_refl _,Nat.zero_le _,fun x hx=>(by cases hx),fun h=>absurd h (Nat.lt_irrefl _)⟩
theorem FracPost.shape {E:Int} {V:Rat} {w w':World} {e:Ending} (h:FracPost E V w e w'):Below w.heap.size w w'/\∃ A n c B m d,e=.returned (.tuple #[.agg #[.bool (pA E V.num),.slice A n c,.bool false,.slice B m d],.int .i64 E])/\Lim w' A n c (pL E V.num)/\Lim w' B m d (pL E (V.den:Int)):=by
 obtain ⟨hB,⟨h0,na,A,n,c,nb,B,m,d,rfl,hf⟩ | ⟨h0,rfl⟩⟩:=h
 ·have e1:na=pA E V.num:=by unfold pA;rw [if_pos h0];exact hf.1.1
  have e2:nb=false:=by rw [hf.2.1];exact decide_eq_false (by omega)
  subst e1 e2;exact ⟨hB,A,n,c,B,m,d,by rw [h0],by unfold pL;rw [if_pos h0];exact hf.1.lim,by unfold pL;rw [if_pos h0];exact hf.2.lim⟩
 ·exact ⟨hB,none,0,0,none,0,0,by unfold pA;rw [if_neg h0],by unfold pL;rw [if_neg h0];exact Zhw _,by unfold pL;rw [if_neg h0];exact Zhw _⟩
theorem AxPost.shape {E l s:Int} {w w':World} {e:Ending} (h:AxPost E l s w e w'):Below w.heap.size w w'/\∃ A n c B m d,e=.returned (.tuple #[.agg #[.bool (pA E l),.slice A n c],.agg #[.bool (pA E s),.slice B m d],.int .i64 E])/\Lim w' A n c (pL E l)/\Lim w' B m d (pL E s):=by
 obtain ⟨hB,⟨h0,na,A,n,c,nb,B,m,d,rfl,hf,hg⟩ | ⟨h0,rfl⟩⟩:=h
 ·have e1:na=pA E l:=by unfold pA;rw [if_pos h0];exact hf.1
  have e2:nb=pA E s:=by unfold pA;rw [if_pos h0];exact hg.1
  subst e1 e2;exact ⟨hB,A,n,c,B,m,d,by rw [h0],by unfold pL;rw [if_pos h0];exact hf.lim,by unfold pL;rw [if_pos h0];exact hg.lim⟩
 ·exact ⟨hB,none,0,0,none,0,0,by unfold pA;rw [if_neg h0,if_neg h0],by unfold pL;rw [if_neg h0];exact Zhw _,by unfold pL;rw [if_neg h0];exact Zhw _⟩
theorem MXL.row1 {w:World} {g:Nat} {t:TypeId} {V:Option Addr} {nv cv:Nat} {es:List FX} (h:Blk w g t #[.slice V nv cv]) (hv:FXL w V nv cv es):MXL w (some ⟨g,0,none⟩) 1 1 [⟨V,nv,cv,es⟩]:=by
 refine ⟨rfl,Nat.le_refl _,by unfold maxLen;omega,fun r hr=>?_,fun _=>⟨g,0,rfl,fun k r hr=>?_⟩⟩
 ·rw [List.mem_singleton] at hr;subst hr;exact hv
 ·cases k with
  | zero=>cases hr;exact h.cell 0
  | succ k=>cases hr
theorem Zpu (A V:Option Addr) (n c nv cv:Nat) (rs:List RX) (es:List FX) (i k:Int) (w:World) (h:MXL w A n c rs) (hv:FXL w V nv cv es) (hi1:-9223372036854775808 <= i) (hi2:i <= 9223372036854775807) (hk1:-9223372036854775808 <= k) (hk2:k <= 9223372036854775807) :
    Calls Tryz.prog 3 #[.slice A n c,.slice V nv cv,.int .i64 i,.int .i64 k] w fun e w'=>e=.returned (.bool true)/\Below w.heap.size w w':=by
 have hcm:=h.2.2.1;have hnc:=h.2.1;unfold maxLen at hcm;have hcm2:=hv.2.2.1;have hnc2:=hv.2.1;unfold maxLen at hcm2;obtain ⟨E1,hE1⟩:∃ E,Zdj rs es=E:=⟨_,rfl⟩;obtain ⟨E2,hE2⟩:∃ E,Zol rs i k=E:=⟨_,rfl⟩;obtain ⟨E3,hE3⟩:∃ E,axE rs=E:=⟨_,rfl⟩;obtain ⟨V1,hV1⟩:∃ E,Zht rs es=E:=⟨_,rfl⟩;obtain ⟨V2,hV2⟩:∃ E,corV rs i k=E:=⟨_,rfl⟩;obtain ⟨V3,hV3⟩:∃ E,axLong (Zg (qM rs) 0 0) (Zg (qM rs) 0 1) (Zg (qM rs) 1 1)=E:=⟨_,rfl⟩;obtain ⟨V4,hV4⟩:∃ E,axShort (Zg (qM rs) 0 0) (Zg (qM rs) 0 1) (Zg (qM rs) 1 1)=E:=⟨_,rfl⟩;obtain ⟨a1,ha1⟩:∃ b,pA E1 V1.num=b:=⟨_,rfl⟩;obtain ⟨a2,ha2⟩:∃ b,pA E2 V2.num=b:=⟨_,rfl⟩;obtain ⟨a3,ha3⟩:∃ b,pA E3 V3=b:=⟨_,rfl⟩;obtain ⟨a4,ha4⟩:∃ b,pA E3 V4=b:=⟨_,rfl⟩;replace hE1:=Za hE1;replace hE2:=Za hE2;replace hE3:=Za hE3;replace hV1:=Za hV1;replace hV2:=Za hV2;replace hV3:=Za hV3;replace hV4:=Za hV4;replace ha1:=Za ha1;replace ha2:=Za ha2;replace ha3:=Za ha3;replace ha4:=Za ha4;have hBB:Hid (Below w.heap.size w w):=Za (Below.refl _ _);replace h:=Za h;replace hv:=Za hv;go_enter Tryz.func3,Tryz.ntmps3;go_wp2_with fail;refine (Zhk A n c rs w h.out).mono ?_;rintro e w1 ⟨b,rfl,hb1,hcalm⟩;replace h:=Za (h.out.below hb1);replace hv:=Za (hv.out.below hb1);have hB2:=Za (hBB.out.trans (hb1.mono hBB.out.size));clear hBB;clear hb1
 cases b with
 | true =>
  go_wp2_with fail;go_ret;exact ⟨rfl,hB2.out⟩
 | false =>
  have hcm1:=Za (hcalm rfl);clear hcalm;obtain ⟨g3,hg4⟩:∃ g,w1.heap.size=g:=⟨_,rfl⟩;obtain ⟨V5,hV6,q7,hb8⟩:=Zae (w:=w1) 23 #[.slice V nv cv];rw [hg4] at q7;replace h:=Za (h.out.below hb8);replace hv:=Za (hv.out.below hb8);have hB9:=Za (hB2.out.trans (hb8.mono hB2.out.size));clear hB2;clear hb8;replace q7:=Za q7;have hm1:=Za (MXL.row1 q7.out hv.out);go_wp2_with fail;(try rw [hg4]);(try rw [hV6]);clear hV6;replace hg4:=Za hg4;refine (Zhk (some ⟨g3,0,none⟩) 1 1 [⟨V,nv,cv,es⟩] V5 hm1.out).mono ?_;rintro e w10 ⟨b,rfl,hb1,hcalm⟩;replace h:=Za (h.out.below hb1);replace hv:=Za (hv.out.below hb1);replace q7:=Za (Zc hb1 q7.out);replace hm1:=Za (hm1.out.below hb1);have hB11:=Za (hB9.out.trans (hb1.mono hB9.out.size));clear hB9;clear hb1;clear hm1;clear q7
  cases b with
  | true =>
   go_wp2_with fail;go_ret;exact ⟨rfl,hB11.out⟩
  | false =>
   have hx4:Hid (∀ e ∈ es,e.few <= 4 \/ 64 < e.few):=Za (fun e he=>(hcalm rfl).2.2 ⟨V,nv,cv,es⟩ List.mem_cons_self e he);have hf:Hid (Zmz 4 rs):=Za hcm1.out.2.2;have hnl:rs.length=n:=h.out.1
   have hFC:=Za (FacC.of h.out hf.out (fun h6=>by
    have h9:=hcm1.out.1
    rcases (show n=0 \/ n=1 \/ n=2 \/ n=3 \/ n=4 by omega) with rfl | rfl | rfl | rfl | rfl <;> omega))
   have hn4:Hid (Zar rs=0->n <= 4):=Za (fun h0=>by
    have h9:=hcm1.out.1;have h8:=(Zdx h0).1.facts.2.1
    omega)
   have hD4:Hid (Zdj rs es=0->Zar rs=0):=Za (fun h0=>by
    by_cases e:Zar rs=0
    ·exact e
    ·rw [Zez rfl e] at h0;exact absurd h0 e)
   have hS5:Hid (Zar rs=0->∀ a b,SmN 5 5 (Zg (qM rs) a b)):=Za (fun h0=>smN_of h.out hf.out h0);have hS1:Hid (Zdj rs es=0->∃ X,SolP rs es X):=Za (fun h0=>solP_of h.out hv.out hf.out (hn4.out (hD4.out h0)) hx4.out h0);have hS2:Hid (Zdj rs es=0->Zlv (Zg (qM rs)) rs.length (Zej es)):=Za (fun h0=>Zu1 h.out hv.out hf.out (hn4.out (hD4.out h0)) hx4.out h0);clear hcalm hcm1 hnl hx4 hf hn4 hD4;go_wp2_with fail;refine (Zk7 A V n c nv cv rs es w10 h.out hFC.out hv.out hS2.out).mono ?_;rintro e w12 hP;obtain ⟨hb1,pA,pk,pc,pB,pj,pd,rfl,pl,pm⟩:=FracPost.shape (show FracPost _ _ _ _ _ from hP);rw [hE1.out,hV1.out] at pl pm;rw [hE1.out,hV1.out,ha1.out];replace h:=Za (h.out.below hb1);replace hv:=Za (hv.out.below hb1);have hB13:=Za (hB11.out.trans (hb1.mono hB11.out.size));clear hB11;clear hP hb1;replace pl:=Za pl;replace pm:=Za pm;obtain ⟨g14,hg15⟩:∃ g,w12.heap.size=g:=⟨_,rfl⟩;obtain ⟨V16,hV17,q18,hb19⟩:=Zae (w:=w12) 29 #[.bool a1,.slice pA pk pc,.bool false,.slice pB pj pd];rw [hg15] at q18;replace h:=Za (h.out.below hb19);replace hv:=Za (hv.out.below hb19);replace pl:=Za (pl.out.below hb19);replace pm:=Za (pm.out.below hb19);have hB20:=Za (hB13.out.trans (hb19.mono hB13.out.size));clear hB13;clear hb19;replace q18:=Za q18;go_wp2_with fail;(try rw [hg15]);(try rw [hV17]);clear hV17;replace hg15:=Za hg15;refine (Zk5 A V n c nv cv rs es V16 h.out hFC.out hv.out hS1.out).mono ?_;rintro e w21 hP;obtain ⟨hb1,qA,qk,qc,qB,qj,qd,rfl,ql,qm⟩:=FracPost.shape hP
   rw [hE1.out,hV1.out] at ql qm;rw [hE1.out,hV1.out,ha1.out];replace h:=Za (h.out.below hb1);replace hv:=Za (hv.out.below hb1);replace pl:=Za (pl.out.below hb1);replace pm:=Za (pm.out.below hb1);replace q18:=Za (Zc hb1 q18.out);have hB22:=Za (hB20.out.trans (hb1.mono hB20.out.size));clear hB20;clear hP hb1;replace ql:=Za ql;replace qm:=Za qm;obtain ⟨g23,hg24⟩:∃ g,w21.heap.size=g:=⟨_,rfl⟩;obtain ⟨V25,hV26,q27,hb28⟩:=Zae (w:=w21) 29 #[.bool a1,.slice qA qk qc,.bool false,.slice qB qj qd];rw [hg24] at q27;replace h:=Za (h.out.below hb28);replace hv:=Za (hv.out.below hb28);replace pl:=Za (pl.out.below hb28);replace pm:=Za (pm.out.below hb28);replace q18:=Za (Zc hb28 q18.out);replace ql:=Za (ql.out.below hb28);replace qm:=Za (qm.out.below hb28);have hB29:=Za (hB22.out.trans (hb28.mono hB22.out.size));clear hB22;clear hb28;replace q27:=Za q27;go_wp2_with fail;(try rw [hg24]);(try rw [hV26]);clear hV26;replace hg24:=Za hg24;refine (Zrj A n c rs i k V25 h.out hFC.out hi1 hi2 hk1 hk2 hS5.out).mono ?_;rintro e w30 hP;obtain ⟨hb1,rA,rk,rc,rB,rj,rd,rfl,rl,rm⟩:=FracPost.shape hP;rw [hE2.out,hV2.out] at rl rm;rw [hE2.out,hV2.out,ha2.out];replace h:=Za (h.out.below hb1);replace hv:=Za (hv.out.below hb1);replace pl:=Za (pl.out.below hb1);replace pm:=Za (pm.out.below hb1);replace q18:=Za (Zc hb1 q18.out);replace ql:=Za (ql.out.below hb1);replace qm:=Za (qm.out.below hb1);replace q27:=Za (Zc hb1 q27.out);have hB31:=Za (hB29.out.trans (hb1.mono hB29.out.size));clear hB29;clear hP hb1
   replace rl:=Za rl;replace rm:=Za rm;obtain ⟨g32,hg33⟩:∃ g,w30.heap.size=g:=⟨_,rfl⟩;obtain ⟨V34,hV35,q36,hb37⟩:=Zae (w:=w30) 29 #[.bool a2,.slice rA rk rc,.bool false,.slice rB rj rd];rw [hg33] at q36;replace h:=Za (h.out.below hb37);replace hv:=Za (hv.out.below hb37);replace pl:=Za (pl.out.below hb37);replace pm:=Za (pm.out.below hb37);replace q18:=Za (Zc hb37 q18.out);replace ql:=Za (ql.out.below hb37);replace qm:=Za (qm.out.below hb37);replace q27:=Za (Zc hb37 q27.out);replace rl:=Za (rl.out.below hb37);replace rm:=Za (rm.out.below hb37);have hB38:=Za (hB31.out.trans (hb37.mono hB31.out.size));clear hB31;clear hb37;replace q36:=Za q36;go_wp2_with fail;(try rw [hg33]);(try rw [hV35]);clear hV35;replace hg33:=Za hg33;refine (Zsb A n c rs i k V34 h.out hFC.out hi1 hi2 hk1 hk2 hS5.out).mono ?_;rintro e w39 hP;obtain ⟨hb1,sA,sk,sc,sB,sj,sd,rfl,sl,sm⟩:=FracPost.shape hP;rw [hE2.out,hV2.out] at sl sm;rw [hE2.out,hV2.out,ha2.out];replace h:=Za (h.out.below hb1);replace hv:=Za (hv.out.below hb1);replace pl:=Za (pl.out.below hb1);replace pm:=Za (pm.out.below hb1);replace q18:=Za (Zc hb1 q18.out);replace ql:=Za (ql.out.below hb1);replace qm:=Za (qm.out.below hb1);replace q27:=Za (Zc hb1 q27.out);replace rl:=Za (rl.out.below hb1);replace rm:=Za (rm.out.below hb1);replace q36:=Za (Zc hb1 q36.out);have hB40:=Za (hB38.out.trans (hb1.mono hB38.out.size));clear hB38;clear hP hb1;replace sl:=Za sl;replace sm:=Za sm;obtain ⟨g41,hg42⟩:∃ g,w39.heap.size=g:=⟨_,rfl⟩
   obtain ⟨V43,hV44,q45,hb46⟩:=Zae (w:=w39) 29 #[.bool a2,.slice sA sk sc,.bool false,.slice sB sj sd];rw [hg42] at q45;replace h:=Za (h.out.below hb46);replace hv:=Za (hv.out.below hb46);replace pl:=Za (pl.out.below hb46);replace pm:=Za (pm.out.below hb46);replace q18:=Za (Zc hb46 q18.out);replace ql:=Za (ql.out.below hb46);replace qm:=Za (qm.out.below hb46);replace q27:=Za (Zc hb46 q27.out);replace rl:=Za (rl.out.below hb46);replace rm:=Za (rm.out.below hb46);replace q36:=Za (Zc hb46 q36.out);replace sl:=Za (sl.out.below hb46);replace sm:=Za (sm.out.below hb46);have hB47:=Za (hB40.out.trans (hb46.mono hB40.out.size));clear hB40;clear hb46;replace q45:=Za q45;go_wp2_with fail;(try rw [hg42]);(try rw [hV44]);clear hV44;replace hg42:=Za hg42;refine (Zsy A n c rs V43 h.out hFC.out hS5.out).mono ?_;rintro e w48 hP;obtain ⟨hb1,uA,uk,uc,vA,vk,vc,rfl,ul,vl⟩:=AxPost.shape hP;rw [hE3.out,hV3.out] at ul;rw [hE3.out,hV4.out] at vl;rw [hE3.out,hV3.out,hV4.out,ha3.out,ha4.out];replace h:=Za (h.out.below hb1);replace hv:=Za (hv.out.below hb1);replace pl:=Za (pl.out.below hb1);replace pm:=Za (pm.out.below hb1);replace q18:=Za (Zc hb1 q18.out);replace ql:=Za (ql.out.below hb1);replace qm:=Za (qm.out.below hb1);replace q27:=Za (Zc hb1 q27.out);replace rl:=Za (rl.out.below hb1);replace rm:=Za (rm.out.below hb1);replace q36:=Za (Zc hb1 q36.out);replace sl:=Za (sl.out.below hb1);replace sm:=Za (sm.out.below hb1);replace q45:=Za (Zc hb1 q45.out)
   have hB49:=Za (hB47.out.trans (hb1.mono hB47.out.size));clear hB47;clear hP hb1;replace ul:=Za ul;replace vl:=Za vl;obtain ⟨V50,hV54,hb2,⟨q52,q53⟩,s2⟩:=Zc7 w48 27 #[.bool a3,.slice uA uk uc] 27 #[.bool a4,.slice vA vk vc];obtain ⟨g51,hg55⟩:∃ g,w48.heap.size=g:=⟨_,rfl⟩;rw [hg55] at q52 q53;clear s2;replace h:=Za (h.out.below hb2);replace hv:=Za (hv.out.below hb2);replace pl:=Za (pl.out.below hb2);replace pm:=Za (pm.out.below hb2);replace q18:=Za (Zc hb2 q18.out);replace ql:=Za (ql.out.below hb2);replace qm:=Za (qm.out.below hb2);replace q27:=Za (Zc hb2 q27.out);replace rl:=Za (rl.out.below hb2);replace rm:=Za (rm.out.below hb2);replace q36:=Za (Zc hb2 q36.out);replace sl:=Za (sl.out.below hb2);replace sm:=Za (sm.out.below hb2);replace q45:=Za (Zc hb2 q45.out);replace ul:=Za (ul.out.below hb2);replace vl:=Za (vl.out.below hb2);have hB56:=Za (hB49.out.trans (hb2.mono hB49.out.size));clear hB49;clear hb2;replace q52:=Za q52;replace q53:=Za q53;go_wp2_with fail;(try rw [hg55]);(try rw [hV54]);clear hV54;replace hg55:=Za hg55;refine (Zrs A n c rs V50 h.out hFC.out hS5.out).mono ?_;rintro e w57 hP;obtain ⟨hb1,xA,xk,xc,yA,yk,yc,rfl,xl,yl⟩:=AxPost.shape hP;rw [hE3.out,hV3.out] at xl;rw [hE3.out,hV4.out] at yl;rw [hE3.out,hV3.out,hV4.out,ha3.out,ha4.out];replace h:=Za (h.out.below hb1);replace hv:=Za (hv.out.below hb1);replace pl:=Za (pl.out.below hb1);replace pm:=Za (pm.out.below hb1);replace q18:=Za (Zc hb1 q18.out);replace ql:=Za (ql.out.below hb1)
   replace qm:=Za (qm.out.below hb1);replace q27:=Za (Zc hb1 q27.out);replace rl:=Za (rl.out.below hb1);replace rm:=Za (rm.out.below hb1);replace q36:=Za (Zc hb1 q36.out);replace sl:=Za (sl.out.below hb1);replace sm:=Za (sm.out.below hb1);replace q45:=Za (Zc hb1 q45.out);replace ul:=Za (ul.out.below hb1);replace vl:=Za (vl.out.below hb1);replace q52:=Za (Zc hb1 q52.out);replace q53:=Za (Zc hb1 q53.out);have hB58:=Za (hB56.out.trans (hb1.mono hB56.out.size));clear hB56;clear hP hb1;replace xl:=Za xl;replace yl:=Za yl;obtain ⟨V59,hV63,hb2,⟨q61,q62⟩,s2⟩:=Zc7 w57 27 #[.bool a3,.slice xA xk xc] 27 #[.bool a4,.slice yA yk yc];obtain ⟨g60,hg64⟩:∃ g,w57.heap.size=g:=⟨_,rfl⟩;rw [hg64] at q61 q62;clear s2;replace h:=Za (h.out.below hb2);replace hv:=Za (hv.out.below hb2);replace pl:=Za (pl.out.below hb2);replace pm:=Za (pm.out.below hb2);replace q18:=Za (Zc hb2 q18.out);replace ql:=Za (ql.out.below hb2);replace qm:=Za (qm.out.below hb2);replace q27:=Za (Zc hb2 q27.out);replace rl:=Za (rl.out.below hb2);replace rm:=Za (rm.out.below hb2);replace q36:=Za (Zc hb2 q36.out);replace sl:=Za (sl.out.below hb2);replace sm:=Za (sm.out.below hb2);replace q45:=Za (Zc hb2 q45.out);replace ul:=Za (ul.out.below hb2);replace vl:=Za (vl.out.below hb2);replace q52:=Za (Zc hb2 q52.out);replace q53:=Za (Zc hb2 q53.out);replace xl:=Za (xl.out.below hb2);replace yl:=Za (yl.out.below hb2);have hB65:=Za (hB58.out.trans (hb2.mono hB58.out.size));clear hB58;clear hb2;replace q61:=Za q61;replace q62:=Za q62
   clear hFC hS5 hS1 hS2;clear h;clear hv;obtain ⟨p0,p1,p2,p3,-⟩:=q18.out.four;obtain ⟨q0,q1,q2,q3,-⟩:=q27.out.four;obtain ⟨r0,r1,r2,r3,-⟩:=q36.out.four;obtain ⟨s0,s1,s2,s3,-⟩:=q45.out.four;obtain ⟨u0,u1,-⟩:=q52.out.two;obtain ⟨v0,v1,-⟩:=q53.out.two;obtain ⟨x0,x1,-⟩:=q61.out.two;obtain ⟨y0,y1,-⟩:=q62.out.two;go_wp2_with fail;(try rw [hg64]);(try rw [hV63]);clear hV63;replace hg64:=Za hg64;clear p0 p1 p2 p3 q0 q1 q2 q3 r0 r1 r2 r3 s0 s1 s2 s3 u0 u1 v0 v1 x0 x1 y0 y1;refine (Zja a1 false pA pB qA qB pk pc pj pd qk qc qj qd _ _ V59 pl.out pm.out ql.out qm.out).mono ?_;rintro e w66 ⟨rfl,hb1⟩;replace pl:=Za (pl.out.below hb1);replace pm:=Za (pm.out.below hb1);replace q18:=Za (Zc hb1 q18.out);replace ql:=Za (ql.out.below hb1);replace qm:=Za (qm.out.below hb1);replace q27:=Za (Zc hb1 q27.out);replace rl:=Za (rl.out.below hb1);replace rm:=Za (rm.out.below hb1);replace q36:=Za (Zc hb1 q36.out);replace sl:=Za (sl.out.below hb1);replace sm:=Za (sm.out.below hb1);replace q45:=Za (Zc hb1 q45.out);replace ul:=Za (ul.out.below hb1);replace vl:=Za (vl.out.below hb1);replace q52:=Za (Zc hb1 q52.out);replace q53:=Za (Zc hb1 q53.out);replace xl:=Za (xl.out.below hb1);replace yl:=Za (yl.out.below hb1);replace q61:=Za (Zc hb1 q61.out);replace q62:=Za (Zc hb1 q62.out);have hB67:=Za (hB65.out.trans (hb1.mono hB65.out.size));clear hB65;clear hb1;obtain ⟨p0,p1,p2,p3,-⟩:=q18.out.four;obtain ⟨q0,q1,q2,q3,-⟩:=q27.out.four;obtain ⟨r0,r1,r2,r3,-⟩:=q36.out.four;obtain ⟨s0,s1,s2,s3,-⟩:=q45.out.four
   obtain ⟨u0,u1,-⟩:=q52.out.two;obtain ⟨v0,v1,-⟩:=q53.out.two;obtain ⟨x0,x1,-⟩:=q61.out.two;obtain ⟨y0,y1,-⟩:=q62.out.two;go_wp2_with fail;clear p0 p1 p2 p3 q0 q1 q2 q3 r0 r1 r2 r3 s0 s1 s2 s3 u0 u1 v0 v1 x0 x1 y0 y1;refine (Zja a2 false rA rB sA sB rk rc rj rd sk sc sj sd _ _ w66 rl.out rm.out sl.out sm.out).mono ?_;rintro e w68 ⟨rfl,hb1⟩;replace pl:=Za (pl.out.below hb1);replace pm:=Za (pm.out.below hb1);replace q18:=Za (Zc hb1 q18.out);replace ql:=Za (ql.out.below hb1);replace qm:=Za (qm.out.below hb1);replace q27:=Za (Zc hb1 q27.out);replace rl:=Za (rl.out.below hb1);replace rm:=Za (rm.out.below hb1);replace q36:=Za (Zc hb1 q36.out);replace sl:=Za (sl.out.below hb1);replace sm:=Za (sm.out.below hb1);replace q45:=Za (Zc hb1 q45.out);replace ul:=Za (ul.out.below hb1);replace vl:=Za (vl.out.below hb1);replace q52:=Za (Zc hb1 q52.out);replace q53:=Za (Zc hb1 q53.out);replace xl:=Za (xl.out.below hb1);replace yl:=Za (yl.out.below hb1);replace q61:=Za (Zc hb1 q61.out);replace q62:=Za (Zc hb1 q62.out);have hB69:=Za (hB67.out.trans (hb1.mono hB67.out.size));clear hB67;clear hb1;obtain ⟨p0,p1,p2,p3,-⟩:=q18.out.four;obtain ⟨q0,q1,q2,q3,-⟩:=q27.out.four;obtain ⟨r0,r1,r2,r3,-⟩:=q36.out.four;obtain ⟨s0,s1,s2,s3,-⟩:=q45.out.four;obtain ⟨u0,u1,-⟩:=q52.out.two;obtain ⟨v0,v1,-⟩:=q53.out.two;obtain ⟨x0,x1,-⟩:=q61.out.two;obtain ⟨y0,y1,-⟩:=q62.out.two;go_wp2_with fail;clear p0 p1 p2 p3 q0 q1 q2 q3 r0 r1 r2 r3 s0 s1 s2 s3 u0 u1 v0 v1 x0 x1 y0 y1
   refine (Zdb a3 a3 uA xA uk uc xk xc _ _ w68 ul.out xl.out).mono ?_;rintro e w70 ⟨rfl,hb1⟩;replace pl:=Za (pl.out.below hb1);replace pm:=Za (pm.out.below hb1);replace q18:=Za (Zc hb1 q18.out);replace ql:=Za (ql.out.below hb1);replace qm:=Za (qm.out.below hb1);replace q27:=Za (Zc hb1 q27.out);replace rl:=Za (rl.out.below hb1);replace rm:=Za (rm.out.below hb1);replace q36:=Za (Zc hb1 q36.out);replace sl:=Za (sl.out.below hb1);replace sm:=Za (sm.out.below hb1);replace q45:=Za (Zc hb1 q45.out);replace ul:=Za (ul.out.below hb1);replace vl:=Za (vl.out.below hb1);replace q52:=Za (Zc hb1 q52.out);replace q53:=Za (Zc hb1 q53.out);replace xl:=Za (xl.out.below hb1);replace yl:=Za (yl.out.below hb1);replace q61:=Za (Zc hb1 q61.out);replace q62:=Za (Zc hb1 q62.out);have hB71:=Za (hB69.out.trans (hb1.mono hB69.out.size));clear hB69;clear hb1;rw [Zfc];obtain ⟨p0,p1,p2,p3,-⟩:=q18.out.four;obtain ⟨q0,q1,q2,q3,-⟩:=q27.out.four;obtain ⟨r0,r1,r2,r3,-⟩:=q36.out.four;obtain ⟨s0,s1,s2,s3,-⟩:=q45.out.four;obtain ⟨u0,u1,-⟩:=q52.out.two;obtain ⟨v0,v1,-⟩:=q53.out.two;obtain ⟨x0,x1,-⟩:=q61.out.two;obtain ⟨y0,y1,-⟩:=q62.out.two;go_wp2_with fail;clear p0 p1 p2 p3 q0 q1 q2 q3 r0 r1 r2 r3 s0 s1 s2 s3 u0 u1 v0 v1 x0 x1 y0 y1;refine (Zdb a4 a4 vA yA vk vc yk yc _ _ w70 vl.out yl.out).mono ?_;rintro e w72 ⟨rfl,hb1⟩;replace pl:=Za (pl.out.below hb1);replace pm:=Za (pm.out.below hb1);replace q18:=Za (Zc hb1 q18.out);replace ql:=Za (ql.out.below hb1);replace qm:=Za (qm.out.below hb1)
   replace q27:=Za (Zc hb1 q27.out);replace rl:=Za (rl.out.below hb1);replace rm:=Za (rm.out.below hb1);replace q36:=Za (Zc hb1 q36.out);replace sl:=Za (sl.out.below hb1);replace sm:=Za (sm.out.below hb1);replace q45:=Za (Zc hb1 q45.out);replace ul:=Za (ul.out.below hb1);replace vl:=Za (vl.out.below hb1);replace q52:=Za (Zc hb1 q52.out);replace q53:=Za (Zc hb1 q53.out);replace xl:=Za (xl.out.below hb1);replace yl:=Za (yl.out.below hb1);replace q61:=Za (Zc hb1 q61.out);replace q62:=Za (Zc hb1 q62.out);have hB73:=Za (hB71.out.trans (hb1.mono hB71.out.size));clear hB71;clear hb1;rw [Zfc];go_wp2_with fail;go_ret;exact ⟨rfl,hB73.out⟩
open Go.ChangeShapes Go.WideShapes Go.Deep Go.RowKit
theorem Zrb {z:Int} (h:(Lit.int .u32 z).wf=true):0 <= z/\z <= 4294967295:=by
 simp only [Lit.wf,Bool.and_eq_true,decide_eq_true_eq] at h;exact h
section
variable {H:Type} {enc:TypeId × Value->H} {w:World} {base:Nat} {spare:Nat->Bool} {held:Bool}
theorem Zsc {fuel:Nat} {cs:List Value} {x:DataW H × List MemPlace} (h:DataW.trod enc Tryz.prog w base spare held fuel 25 cs=some x):∃ (A:Option Addr) (n c:Nat) (l:List Nat),cs=[.slice A n c]/\Lim w A n c l:=by
 rcases open_ints Tryz.underlying25 Tryz.underlying147 (by kernel_rfl) h with ⟨rfl,_⟩ | ⟨a,len,cap,zs,rfl,_,hl,hm,hz,_,hcell,hwf⟩
 ·exact ⟨none,0,0,[],rfl,Lim.nil _ _ _ (Nat.zero_le _)⟩
 ·have hlz:len <= zs.length:=by rw [hz];split <;> omega
  refine ⟨some a,len,cap,(zs.take len).map Int.toNat,rfl,by simp;omega,hl,hm,fun v hv=>?_,fun hn=>?_⟩
  ·obtain ⟨z,hz1,rfl⟩:=List.mem_map.1 hv
   have:=Zrb (hwf z (List.mem_of_mem_take hz1));omega
  ·have h0:=hcell 0 (by omega)
   have hp:=Zhe h0
   obtain ⟨b,o,s⟩:∃ b o,a=⟨b,o,none⟩:=by
    obtain ⟨b,o,s⟩:=a;refine ⟨b,o,?_⟩;unfold Addr.add at hp
    split at hp <;> simp_all
   subst s;refine ⟨b,o,rfl,fun k hk=>?_⟩;have hc:=hcell k (by omega);rw [Zf] at hc;rw [hc]
   have hkz:k < zs.length:=by omega
   have hw:=Zrb (hwf zs[k] (List.getElem_mem hkz));rw [List.getElem?_map,List.getElem?_take,if_pos hk,List.getElem?_eq_getElem hkz,List.getD_eq_getElem?_getD,List.getElem?_eq_getElem hkz]
   simp [limb]
   omega
theorem Zj6 {fuel:Nat} {cs:List Value} {x:DataW H × List MemPlace} (h:DataW.trod enc Tryz.prog w base spare held fuel 27 cs=some x):∃ (na:Bool) (A:Option Addr) (n c:Nat) (l:List Nat),cs=[.bool na,.slice A n c]/\Lim w A n c l:=by
 obtain ⟨xs,n',_,_,hl,hxl,hfl⟩:=DataW.trod_struct Tryz.underlying27 h
 have c2:Tryz.prog.cellsOf 27=2:=by kernel_rfl
 have c0:Tryz.prog.cellsOf 4=1:=by kernel_rfl
 have c1:Tryz.prog.cellsOf 25=1:=by kernel_rfl
 rw [c2] at hl
 obtain ⟨x,y,rfl⟩:∃ x y,cs=[x,y]:=by
  match cs,hl with
  | [x,y],_=>exact ⟨x,y,rfl⟩
 have f0:=hfl 0 _ rfl;have f1:=hfl 1 _ rfl;simp only [List.getElem_toArray,List.getElem_cons_zero,List.getElem_cons_succ] at f0 f1;rw [c0] at f0;rw [c1] at f1;have g0:xs[0]?=some (xs[0]'(by rw [hxl];decide)):=List.getElem?_eq_getElem _;have g1:xs[1]?=some (xs[1]'(by rw [hxl];decide)):=List.getElem?_eq_getElem _;rw [g0] at f0;rw [g1] at f1;obtain ⟨b,e0,_⟩:=DataW.trod_bool Tryz.underlying4 f0;obtain ⟨A,n,c,l,e1,hL⟩:=Zsc f1
 simp at e0 e1
 subst e0 e1;exact ⟨b,A,n,c,l,rfl,hL⟩
theorem Zo7 {fuel:Nat} {cs:List Value} {x:DataW H × List MemPlace} (h:DataW.trod enc Tryz.prog w base spare held fuel 29 cs=some x) :
    ∃ (na nb:Bool) (A B:Option Addr) (n c m d:Nat) (la lb:List Nat),cs=[.bool na,.slice A n c,.bool nb,.slice B m d]/\Lim w A n c la/\Lim w B m d lb:=by
 obtain ⟨xs,n',_,_,hl,hxl,hfl⟩:=DataW.trod_struct Tryz.underlying29 h
 have c4:Tryz.prog.cellsOf 29=4:=by kernel_rfl
 have c2:Tryz.prog.cellsOf 27=2:=by kernel_rfl
 rw [c4] at hl
 obtain ⟨x,y,z,u,rfl⟩:∃ x y z u,cs=[x,y,z,u]:=by
  match cs,hl with
  | [x,y,z,u],_=>exact ⟨x,y,z,u,rfl⟩
 have f0:=hfl 0 _ rfl;have f1:=hfl 1 _ rfl;simp only [List.getElem_toArray,List.getElem_cons_zero,List.getElem_cons_succ] at f0 f1;rw [c2] at f0 f1;have g0:xs[0]?=some (xs[0]'(by rw [hxl];decide)):=List.getElem?_eq_getElem _;have g1:xs[1]?=some (xs[1]'(by rw [hxl];decide)):=List.getElem?_eq_getElem _;rw [g0] at f0;rw [g1] at f1;obtain ⟨na,A,n,c,la,e0,h0⟩:=Zj6 f0;obtain ⟨nb,B,m,d,lb,e1,h1⟩:=Zj6 f1
 simp at e0 e1
 obtain ⟨rfl,rfl⟩:=e0;obtain ⟨rfl,rfl⟩:=e1;exact ⟨na,nb,A,B,n,c,m,d,la,lb,rfl,h0,h1⟩
end
section
variable {H:Type} {enc:TypeId × Value->H} {w:World} {base:Nat} {spare:Nat->Bool} {held:Bool}
theorem Zix {fuel:Nat} {cs:List Value} {x:DataW H × List MemPlace} (h:DataW.trod enc Tryz.prog w base spare held fuel 23 cs=some x):∃ (A:Option Addr) (n c:Nat) (es:List FX),cs=[.slice A n c]/\FXL w A n c es:=by
 have c4:Tryz.prog.cellsOf 29=4:=by kernel_rfl
 rcases open_slice Tryz.underlying23 h with ⟨hcs,_⟩ | ⟨a,n,c,m,f,D,Pl,hcs,_,hl,hm,hmm,_,hi⟩
 ·exact ⟨none,0,0,[],hcs,rfl,Nat.le_refl _,Nat.zero_le _,fun e he=>(by cases he),fun h=>absurd h (by omega)⟩
 ·have hlm:n <= m:=by rw [hmm];split <;> omega
  rw [c4] at hi
  obtain ⟨es,he1,he2⟩:=Zq6 (fun i (e:FX)=>w.cell? (a.add (i * 4+0))=some (.bool e.na)/\w.cell? (a.add (i * 4+1))=some (.slice e.A e.n e.c)/\w.cell? (a.add (i * 4+2))=some (.bool e.nb)/\w.cell? (a.add (i * 4+3))=some (.slice e.B e.m e.d)/\e.in_ w) n (fun i hin=>by
   obtain ⟨cs',hc,ht⟩:=hi i (by omega);obtain ⟨na,nb,A,B,n1,c1,m1,d1,la,lb,rfl,h1,h2⟩:=Zo7 ht;obtain ⟨_,_,hat⟩:=World.cells?_some hc;have g0:=hat 0 (by simp);have g1:=hat 1 (by simp);have g2:=hat 2 (by simp);have g3:=hat 3 (by simp);rw [Go.Deep.add_add] at g0 g1 g2 g3
   exact ⟨⟨na,A,n1,c1,la,nb,B,m1,d1,lb⟩,by simpa using g0,by simpa using g1,by simpa using g2,by simpa using g3,h1,h2⟩)
  refine ⟨some a,n,c,es,hcs,he1,hl,hm,fun e he=>?_,fun hn=>?_⟩
  ·obtain ⟨k,hk,rfl⟩:=List.getElem_of_mem he
   exact (he2 k _ (List.getElem?_eq_getElem hk)).2.2.2.2
  ·obtain ⟨b,o,rfl⟩:∃ b o,a=⟨b,o,none⟩:=by
     have h0:=he2 0 _ (List.getElem?_eq_getElem (by omega));have hp:=Zhe h0.1;obtain ⟨b,o,s⟩:=a;refine ⟨b,o,?_⟩;unfold Addr.add at hp
     split at hp <;> simp_all
   refine ⟨b,o,rfl,fun k e hk=>?_⟩;have h0:=he2 k e hk;rw [Zf,Zf,Zf,Zf] at h0;exact ⟨h0.1,by rw [Nat.add_assoc];exact h0.2.1,by rw [Nat.add_assoc];exact h0.2.2.1,by rw [Nat.add_assoc];exact h0.2.2.2.1⟩
theorem Zsj {fuel:Nat} {cs:List Value} {x:DataW H × List MemPlace} (h:DataW.trod enc Tryz.prog w base spare held fuel 22 cs=some x):∃ (A:Option Addr) (n c:Nat) (rs:List RX),cs=[.slice A n c]/\MXL w A n c rs:=by
 have c1:Tryz.prog.cellsOf 23=1:=by kernel_rfl
 rcases open_slice Tryz.underlying22 h with ⟨hcs,_⟩ | ⟨a,n,c,m,f,D,Pl,hcs,_,hl,hm,hmm,_,hi⟩
 ·exact ⟨none,0,0,[],hcs,rfl,Nat.le_refl _,Nat.zero_le _,fun e he=>(by cases he),fun h=>absurd h (by omega)⟩
 ·have hlm:n <= m:=by rw [hmm];split <;> omega
  rw [c1] at hi
  obtain ⟨rs,he1,he2⟩:=Zq6 (fun i (r:RX)=>w.cell? (a.add i)=some (.slice r.A r.n r.c)/\FXL w r.A r.n r.c r.es) n (fun i hin=>by
   obtain ⟨cs',hc,ht⟩:=hi i (by omega);obtain ⟨A,n1,c1,es,rfl,h1⟩:=Zix ht;obtain ⟨_,_,hat⟩:=World.cells?_some hc;have g0:=hat 0 (by simp);rw [Go.Deep.add_add] at g0
   exact ⟨⟨A,n1,c1,es⟩,by simpa using g0,h1⟩)
  refine ⟨some a,n,c,rs,hcs,he1,hl,hm,fun r hr=>?_,fun hn=>?_⟩
  ·obtain ⟨k,hk,rfl⟩:=List.getElem_of_mem hr
   exact (he2 k _ (List.getElem?_eq_getElem hk)).2
  ·obtain ⟨b,o,rfl⟩:∃ b o,a=⟨b,o,none⟩:=by
     have h0:=he2 0 _ (List.getElem?_eq_getElem (by omega));have hp:=Zhe h0.1;obtain ⟨b,o,s⟩:=a;refine ⟨b,o,?_⟩;unfold Addr.add at hp
     split at hp <;> simp_all
   refine ⟨b,o,rfl,fun k r hk=>?_⟩;have h0:=he2 k r hk;rw [Zf] at h0;exact h0.1
theorem Zt5 {r:Reach} {b0:Nat} {v:Value} {d:DataW H} {p:List MemPlace} (hv:Value.okWide Tryz.prog w r b0 22 v) (h:DataW.Trod enc Tryz.prog w base spare held 22 v d p) :
    ∃ (A:Option Addr) (n c:Nat) (rs:List RX),v=.slice A n c/\MXL w A n c rs:=by
 obtain ⟨A,n,c,rfl⟩:=okWide_slice Tryz.underlying22 hv;obtain ⟨fuel,hf⟩:=h;obtain ⟨A',n',c',rs,e,hM⟩:=Zsj hf
 simp [Value.cells] at e
 obtain ⟨rfl,rfl,rfl⟩:=e;exact ⟨_,_,_,rs,rfl,hM⟩
theorem Zpg {r:Reach} {b0:Nat} {v:Value} {d:DataW H} {p:List MemPlace} (hv:Value.okWide Tryz.prog w r b0 23 v) (h:DataW.Trod enc Tryz.prog w base spare held 23 v d p) :
    ∃ (A:Option Addr) (n c:Nat) (es:List FX),v=.slice A n c/\FXL w A n c es:=by
 obtain ⟨A,n,c,rfl⟩:=okWide_slice Tryz.underlying23 hv;obtain ⟨fuel,hf⟩:=h;obtain ⟨A',n',c',es,e,hM⟩:=Zix hf
 simp [Value.cells] at e
 obtain ⟨rfl,rfl,rfl⟩:=e;exact ⟨_,_,_,es,rfl,hM⟩
end
section
variable {H:Type} {enc:TypeId × Value->H} {w:World} {base:Nat} {spare:Nat->Bool} {held:Bool}
theorem Zlq {z:Int} (h:(Lit.int .i64 z).wf=true):-9223372036854775808 <= z/\z <= 9223372036854775807:=by
 simp only [Lit.wf,Bool.and_eq_true,decide_eq_true_eq] at h;exact h
end
end Go.Proofs.YtaioanjcjijckaaGreat
