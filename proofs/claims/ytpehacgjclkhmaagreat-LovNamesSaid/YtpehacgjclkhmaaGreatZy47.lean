/- For LovNames: its numbers (plain). Package -/
import Derived.OpenShut
import Derived.Test.YtpehacgjclkhmaaGreatZy45
import Derived.Test.YtpehacgjclkhmaaGreatZy46
set_option maxRecDepth 100000
set_option maxHeartbeats 8000000
set_option linter.unusedSimpArgs false
set_option linter.unusedVariables false
namespace Go.Proofs.YtpehacgjclkhmaaGreat
open Go.RowKit
theorem St.zeroC : St.zero.cells = #[.int .i64 0,.int .i64 0,.int .i64 0,.int .i64 0,.int .i64 0,.int .i64 0,.int .i64 0]:=rfl
theorem restC : restS.cells = #[.int .i64 0,.int .i64 1099511627776,.int .i64 0,.int .i64 0,.int .i64 0,.int .i64 0,.int .i64 0]:=rfl
theorem st_dec : ∀ (a b : St),(decide (a.t = b.t) && decide (a.p0 = b.p0) && decide (a.p1 = b.p1) && decide (a.p2 = b.p2) && decide (a.v0 = b.v0) && decide (a.v1 = b.v1) && decide (a.v2 = b.v2)) = true -> a = b:=fun a b h=>by
 simp only [Bool.and_eq_true,decide_eq_true_eq] at h;obtain ⟨⟨⟨⟨⟨⟨h0,h1⟩,h2⟩,h3⟩,h4⟩,h5⟩,h6⟩:=h;exact St.ext' h0 h1 h2 h3 h4 h5 h6
theorem zero_st : stE St.zero = 8:=by decide +kernel
theorem Zps {rs : List RX} (h : Zbw rs = Zfa unitQ) : rs.length = 6:=by
 have : (Zbw rs).length = rs.length:=by simp [Zbw]
 rw [<- this,h];rfl
theorem Zpa {rs : List RX} (h : Zbw rs = Zfa unitQ) : Za4 rs 6 = 2:=Zek (Zkk h) (Zps h) (by decide)
theorem two_dir {rs : List RX} (h : Zbw rs = Zfa [[1]]) : Za4 rs 0 = 8:=by
 have hl : rs.length = 1:=by
  have : (Zbw rs).length = rs.length:=by simp [Zbw]
  rw [<- this,h];rfl
 refine Zf1 ?_ (by omega);rw [Zl9,h];decide +kernel
theorem two_few {rs : List RX} (h : Zbw rs = Zfa [[1]]) : fewM 1 rs:=Zns h (by decide +kernel)
theorem Zno : Za4 [] 0 = 8:=by
 refine Zd1 ?_ (by decide);rw [Zl9];decide +kernel
theorem Zor : Zce (Zm unitQ) 5 = [0,0,0,0,0,1]:=by decide +kernel
theorem Zo1 (rs : List RX) : smpE rs St.zero 0 1 = 8 /\ smpV rs St.zero 0 1 = St.zero:=Zqj zero_st (by decide)
theorem Zn2 {d : Int} (h : stE (mvS restS (Zcr Zbs d) 6) ≠ 0) : movE restS Zbs d = 24 /\ movV restS Zbs d = St.zero:=Zkl h
theorem Zoy {rs : List RX} (hq : qM rs = unitQ) (h : Zbw rs = Zfa unitQ) : smpE rs restS 0 8796093022208 = 24 /\ smpV rs restS 0 8796093022208 = St.zero:=by
 obtain ⟨h1,h2⟩:=Zjv (s:=restS) (d:=8796093022208) Zfo (Zb7 h (k:=0) (by decide))
 have hd : Zce (Zm (qM rs)) (0 : Int).toNat = Zbs:=by rw [hq];exact Zg4
 rw [h1,h2,hd];exact Zn2 (by decide +kernel)
theorem Zmw {rs : List RX} (hq : qM rs = unitQ) (h : Zbw rs = Zfa unitQ) : smpE rs restS 5 0 = 0 /\ smpV rs restS 5 0 = restS:=by
 obtain ⟨h1,h2⟩:=Zjv (s:=restS) (d:=0) Zfo (Zb7 h (k:=5) (by decide))
 have hd : Zce (Zm (qM rs)) (5 : Int).toNat = [0,0,0,0,0,1]:=by rw [hq];exact Zor
 rw [h1,h2,hd];obtain ⟨h3,h4⟩:=Zmq (s:=restS) (dir:=[0,0,0,0,0,1]) (d:=0) (by decide +kernel) (by decide +kernel);rw [h3,h4];exact ⟨rfl,st_dec _ _ (by decide +kernel)⟩
theorem Zgc {rs : List RX} (h : Zbw rs = Zfa unitQ) {step n : Int} (hn : ¬ (1 <= step /\ step <= 1125899906842624 /\ 0 <= n /\ n <= 20)) : lineE rs restS 0 step n = 2:=Zk2 Zfo (Zb7 h (by decide)) hn
theorem Zm5 {rs : List RX} (hq : qM rs = unitQ) (h : Zbw rs = Zfa unitQ) : lineE rs restS 0 1125899906842624 1 = 24:=by
 have hd : Ze3 rs 0 = Zbs:=by unfold Ze3;rw [hq];exact Zg4
 rw [Zh0 Zfo (Zb7 h (by decide)) (by decide),hd];refine Zjh (j:=0) (by decide) ?_;rw [(Zn2 (d:=Zbg (1 : Int).toNat 1125899906842624 0) (by decide +kernel)).1];decide
theorem Zks {rs : List RX} (hq : qM rs = unitQ) (h : Zbw rs = Zfa unitQ) : sgE rs 3 = 0 /\ sgV rs 3 = 2:=by
 have hr : sgR rs 3 = 2:=by
  unfold sgR;rw [hq,show Int.fdiv (Zm unitQ (3 : Int).toNat (3 : Int).toNat).num (Zm unitQ (3 : Int).toNat (3 : Int).toNat).den = 4 by decide +kernel];exact Zdd ⟨by decide,by decide⟩
 exact sg_ok (Zb7 h (by decide)) hr (by decide)
theorem MFL.oneR {w : World} {g : Nat} {t : TypeId} {A : Option Addr} {n c : Nat} {p : List Rat} (h : Blk w g t #[.slice A n c]) (hp : FL w A n c p) : MFL w (some ⟨g,0,none⟩) 1 1 [p]:=by
 refine ⟨rfl,Nat.le_refl _,by unfold maxLen;omega,fun _=>⟨g,0,rfl,fun k r hr=>?_⟩⟩
 match k,hr with
 | 0,hr=>cases hr;exact ⟨A,n,c,h.cell 0,hp⟩
 | k + 1,hr=>simp at hr
theorem MXL.nilR (w : World) : MXL w none 0 0 []:=⟨rfl,Nat.le_refl _,Nat.zero_le _,fun r hr=>(by cases hr),fun h=>absurd h (Nat.lt_irrefl _)⟩
theorem Zpj : FacC []:=fun hV _=>absurd hV.facts.1 (Nat.lt_irrefl _)
attribute [local go_sem] Zg
theorem one_four : Rat.divInt 1 4 = 1 / 4 /\ Rat.divInt 1 2 = 1 / 2 /\ Rat.divInt 1 1 = 1 /\ Rat.divInt 0 1 = 0:=⟨by decide +kernel,by decide +kernel,by decide +kernel,by decide +kernel⟩
theorem Zpt (w : World) : Calls Tryz.prog 18 #[] w fun e w'=>e = .returned (.bool true) /\ Below w.heap.size w w':=by
 have hmx : Tryz.prog.follows .mixedOrders = true:=by kernel_rfl
 have hBB : Hid (Below w.heap.size w w):=Za (Below.refl _ _);go_enter Tryz.func18,Tryz.ntmps18;go_wp2_with fail;refine (Zdt 1 w (by decide) (by decide)).mono ?_;rintro e w1 ⟨hb1,hwe⟩;have hB2:=Za (hBB.out.trans (hb1.mono hBB.out.size));clear hBB;clear hb1
 rcases hwe with ⟨-,-,A1,k1,rfl,hF1⟩ | ⟨h,-⟩
 case inr=>exact absurd (by decide) h
 rw [show (1 : Int).toNat = 1 from rfl,Zoe] at hF1;replace hF1 : FL w1 A1 3 k1 [1 / 4,1 / 2,1 / 4]:=hF1;replace hF1:=Za hF1;rw [show 2 * (1 : Int).toNat + 1 = 3 from rfl];go_wp2_with fail;refine (Zca w1).mono ?_;rintro e w3 ⟨va,rfl,hba,La,hOa⟩;replace hF1:=Za (hF1.out.below hba);have hB4:=Za (hB2.out.trans (hba.mono hB2.out.size));clear hB2;clear hba;obtain ⟨Aa,ka,rfl,hMa⟩:=hOa.mflA;rw [Zaz] at hMa ⊢;obtain ⟨rsa,hXa,hqa,hsa⟩:=hMa.mxs;have hcapa:=hXa.2.2.1;unfold maxLen at hcapa;have hc6a:=hXa.2.1;have hCa:=Za (FacC.of hXa (Z5 hsa) (fun _=>by decide));have hfa:=Za ((Z5 hsa).mono (show 1 <= 3 by decide));have hEa:=Za (Zjd hqa hsa);have hDa : Hid (Za4 rsa 0 = 0):=Za (Zb7 hsa (by decide));clear hOa hMa La hqa hsa;replace hXa:=Za hXa;go_wp2_with fail;refine (Zat Aa 6 ka rsa 0 w3 hXa.out hCa.out (by decide) (by decide)).mono ?_;rintro e w5 ⟨hb2,hd2⟩;replace hF1:=Za (hF1.out.below hb2);replace hXa:=Za (hXa.out.below hb2);have hB6:=Za (hB4.out.trans (hb2.mono hB4.out.size));clear hB4;clear hb2
 rcases hd2 with ⟨-,A2,k2,rfl,hF2⟩ | ⟨h,-⟩
 case inr=>exact absurd hDa.out h
 rw [hEa.out.2.2] at hF2;have hcap2:=hF2.cap;unfold maxLen at hcap2;clear hCa hfa hEa hDa hcapa hc6a;clear hXa;replace hF2:=Za hF2;go_wp2_with fail;refine (Zb9 w5).mono ?_;rintro e w7 ⟨rfl,hbr⟩;replace hF1:=Za (hF1.out.below hbr);replace hF2:=Za (hF2.out.below hbr);have hB8:=Za (hB6.out.trans (hbr.mono hB6.out.size));clear hB6;clear hbr;go_wp2_with fail;refine (Zca w7).mono ?_;rintro e w9 ⟨vb,rfl,hbb,Lb,hOb⟩;replace hF1:=Za (hF1.out.below hbb);replace hF2:=Za (hF2.out.below hbb);have hB10:=Za (hB8.out.trans (hbb.mono hB8.out.size));clear hB8;clear hbb;obtain ⟨Ab,kb,rfl,hMb⟩:=hOb.mflA;rw [Zaz] at hMb ⊢;obtain ⟨rsb,hXb,hqb,hsb⟩:=hMb.mxs;have hcapb:=hXb.2.2.1;unfold maxLen at hcapb;have hc6b:=hXb.2.1;have hCb:=Za (FacC.of hXb (Z5 hsb) (fun _=>by decide));have hfb:=Za ((Z5 hsb).mono (show 1 <= 3 by decide));have hEb:=Za (Zjd hqb hsb);have hDb : Hid (Za4 rsb 0 = 0):=Za (Zb7 hsb (by decide));clear hOb hMb Lb hqb hsb;replace hXb:=Za hXb;go_wp2_with fail;refine (Zd0 restS Ab 6 kb rsb 0 4 1 w9 hXb.out hCb.out hfb.out (by decide) (by decide) (by decide) (by decide) (by decide) (by decide)).mono ?_;rintro e w11 ⟨hb3,hl3⟩;replace hF1:=Za (hF1.out.below hb3);replace hF2:=Za (hF2.out.below hb3);replace hXb:=Za (hXb.out.below hb3);have hB12:=Za (hB10.out.trans (hb3.mono hB10.out.size));clear hB10;clear hb3
 rcases hl3 with ⟨-,A3,k3,rfl,hL3⟩ | ⟨h,-⟩
 case inr=>exact absurd hEb.out.1 h
 rw [hEb.out.2.1] at hL3;replace hL3 : SL w11 A3 3 k3 [Zji,restS,Zje]:=hL3;rw [show 2 * (1 : Int).toNat + 1 = 3 from rfl];have hcap3:=hL3.2.2.1;unfold maxLen at hcap3;clear hCb hfb hEb hDb hcapb hc6b;clear hXb;replace hL3:=Za hL3;go_wp2_with fail;refine (Zbq 1 1 w11 (by decide) (by decide) (by decide) (by decide)).mono ?_;rintro e w13 ⟨hbp1,p1n,p1A,p1k,p1c,p1m,p1B,p1j,p1d,rfl,p1f⟩;replace hF1:=Za (hF1.out.below hbp1);replace hF2:=Za (hF2.out.below hbp1);replace hL3:=Za (hL3.out.below hbp1);have hB14:=Za (hB12.out.trans (hbp1.mono hB12.out.size));clear hB12;clear hbp1;rw [one_four.2.2.1] at p1f;replace p1f:=Za p1f;go_wp2_with fail;refine (Zbq 1 4 w13 (by decide) (by decide) (by decide) (by decide)).mono ?_;rintro e w15 ⟨hbp2,p2n,p2A,p2k,p2c,p2m,p2B,p2j,p2d,rfl,p2f⟩;replace hF1:=Za (hF1.out.below hbp2);replace hF2:=Za (hF2.out.below hbp2);replace hL3:=Za (hL3.out.below hbp2);replace p1f:=Za (p1f.out.below hbp2);have hB16:=Za (hB14.out.trans (hbp2.mono hB14.out.size));clear hB14;clear hbp2;rw [one_four.1] at p2f;replace p2f:=Za p2f;go_wp2_with fail;refine (Zbq 0 1 w15 (by decide) (by decide) (by decide) (by decide)).mono ?_;rintro e w17 ⟨hbp3,p3n,p3A,p3k,p3c,p3m,p3B,p3j,p3d,rfl,p3f⟩;replace hF1:=Za (hF1.out.below hbp3);replace hF2:=Za (hF2.out.below hbp3);replace hL3:=Za (hL3.out.below hbp3);replace p1f:=Za (p1f.out.below hbp3);replace p2f:=Za (p2f.out.below hbp3);have hB18:=Za (hB16.out.trans (hbp3.mono hB16.out.size));clear hB16;clear hbp3;rw [one_four.2.2.2] at p3f
 replace p3f:=Za p3f;go_wp2_with fail;refine (Zbq 0 1 w17 (by decide) (by decide) (by decide) (by decide)).mono ?_;rintro e w19 ⟨hbp4,p4n,p4A,p4k,p4c,p4m,p4B,p4j,p4d,rfl,p4f⟩;replace hF1:=Za (hF1.out.below hbp4);replace hF2:=Za (hF2.out.below hbp4);replace hL3:=Za (hL3.out.below hbp4);replace p1f:=Za (p1f.out.below hbp4);replace p2f:=Za (p2f.out.below hbp4);replace p3f:=Za (p3f.out.below hbp4);have hB20:=Za (hB18.out.trans (hbp4.mono hB18.out.size));clear hB18;clear hbp4;rw [one_four.2.2.2] at p4f;replace p4f:=Za p4f;go_wp2_with fail;refine (Zbq 0 1 w19 (by decide) (by decide) (by decide) (by decide)).mono ?_;rintro e w21 ⟨hbp5,p5n,p5A,p5k,p5c,p5m,p5B,p5j,p5d,rfl,p5f⟩;replace hF1:=Za (hF1.out.below hbp5);replace hF2:=Za (hF2.out.below hbp5);replace hL3:=Za (hL3.out.below hbp5);replace p1f:=Za (p1f.out.below hbp5);replace p2f:=Za (p2f.out.below hbp5);replace p3f:=Za (p3f.out.below hbp5);replace p4f:=Za (p4f.out.below hbp5);have hB22:=Za (hB20.out.trans (hbp5.mono hB20.out.size));clear hB20;clear hbp5;rw [one_four.2.2.2] at p5f;replace p5f:=Za p5f;go_wp2_with fail;refine (Zbq 0 1 w21 (by decide) (by decide) (by decide) (by decide)).mono ?_;rintro e w23 ⟨hbp6,p6n,p6A,p6k,p6c,p6m,p6B,p6j,p6d,rfl,p6f⟩;replace hF1:=Za (hF1.out.below hbp6);replace hF2:=Za (hF2.out.below hbp6);replace hL3:=Za (hL3.out.below hbp6);replace p1f:=Za (p1f.out.below hbp6);replace p2f:=Za (p2f.out.below hbp6);replace p3f:=Za (p3f.out.below hbp6);replace p4f:=Za (p4f.out.below hbp6)
 replace p5f:=Za (p5f.out.below hbp6);have hB24:=Za (hB22.out.trans (hbp6.mono hB22.out.size));clear hB22;clear hbp6;rw [one_four.2.2.2] at p6f;replace p6f:=Za p6f;obtain ⟨g25,hg26⟩ : ∃ g,w23.heap.size = g:=⟨_,rfl⟩;obtain ⟨V27,hV28,q29,hb30⟩:=Zbx (w:=w23) 29 #[.bool p1n,.slice p1A p1k p1c,.bool p1m,.slice p1B p1j p1d,.bool p2n,.slice p2A p2k p2c,.bool p2m,.slice p2B p2j p2d,.bool p3n,.slice p3A p3k p3c,.bool p3m,.slice p3B p3j p3d,.bool p4n,.slice p4A p4k p4c,.bool p4m,.slice p4B p4j p4d,.bool p5n,.slice p5A p5k p5c,.bool p5m,.slice p5B p5j p5d,.bool p6n,.slice p6A p6k p6c,.bool p6m,.slice p6B p6j p6d];rw [hg26] at q29;replace hF1:=Za (hF1.out.below hb30);replace hF2:=Za (hF2.out.below hb30);replace hL3:=Za (hL3.out.below hb30);replace p1f:=Za (p1f.out.below hb30);replace p2f:=Za (p2f.out.below hb30);replace p3f:=Za (p3f.out.below hb30);replace p4f:=Za (p4f.out.below hb30);replace p5f:=Za (p5f.out.below hb30);replace p6f:=Za (p6f.out.below hb30);have hB31:=Za (hB24.out.trans (hb30.mono hB24.out.size));clear hB24;clear hb30;replace q29:=Za q29
 have hF7 : FL V27 (some ⟨g25,0,none⟩) 6 6 Zbs:=FL.made (es:=[⟨p1n,p1A,p1k,p1c,p1m,p1B,p1j,p1d,1⟩,⟨p2n,p2A,p2k,p2c,p2m,p2B,p2j,p2d,1 / 4⟩,⟨p3n,p3A,p3k,p3c,p3m,p3B,p3j,p3d,0⟩,⟨p4n,p4A,p4k,p4c,p4m,p4B,p4j,p4d,0⟩,⟨p5n,p5A,p5k,p5c,p5m,p5B,p5j,p5d,0⟩,⟨p6n,p6A,p6k,p6c,p6m,p6B,p6j,p6d,0⟩]) q29.out (fun e he=>by
  simp only [List.mem_cons,List.not_mem_nil,or_false] at he
  rcases he with rfl | rfl | rfl | rfl | rfl | rfl
  ·exact p1f.out
  ·exact p2f.out
  ·exact p3f.out
  ·exact p4f.out
  ·exact p5f.out
  ·exact p6f.out) (by simp)
 clear q29 p1f p2f p3f p4f p5f p6f;replace hF7:=Za hF7;go_wp2_with fail;(try rw [hg26]);(try rw [hV28]);clear hV28;replace hg26:=Za hg26;refine (Zb9 V27).mono ?_;rintro e w32 ⟨rfl,hbr⟩;replace hF1:=Za (hF1.out.below hbr);replace hF2:=Za (hF2.out.below hbr);replace hL3:=Za (hL3.out.below hbr);replace hF7:=Za (hF7.out.below hbr);have hB33:=Za (hB31.out.trans (hbr.mono hB31.out.size));clear hB31;clear hbr;go_wp2_with fail;refine (Zb9 w32).mono ?_;rintro e w34 ⟨rfl,hbr⟩;replace hF1:=Za (hF1.out.below hbr);replace hF2:=Za (hF2.out.below hbr);replace hL3:=Za (hL3.out.below hbr);replace hF7:=Za (hF7.out.below hbr);have hB35:=Za (hB33.out.trans (hbr.mono hB33.out.size));clear hB33;clear hbr;obtain ⟨g8,hg8⟩ : ∃ g,w34.heap.size = g:=⟨_,rfl⟩;obtain ⟨V8,hV8,q8,hb8⟩:=Zbx (w:=w34) 46 #[.int .i64 0,.int .i64 1099511627772,.int .i64 (-1),.int .i64 0,.int .i64 0,.int .i64 0,.int .i64 0];rw [hg8] at q8;obtain ⟨V9,hV9,q9,hb9⟩:=Zbx (w:=V8) 46 #[.int .i64 0,.int .i64 1099511627780,.int .i64 1,.int .i64 0,.int .i64 0,.int .i64 0,.int .i64 0];rw [show V8.heap.size = g8 + 1 by rw [<- hV8,<- hg8];simp] at q9;replace hF1:=Za (hF1.out.below hb8);replace hF2:=Za (hF2.out.below hb8);replace hL3:=Za (hL3.out.below hb8);replace hF7:=Za (hF7.out.below hb8);have hB36:=Za (hB35.out.trans (hb8.mono hB35.out.size));clear hB35;replace q8:=Za q8;replace hF1:=Za (hF1.out.below hb9);replace hF2:=Za (hF2.out.below hb9);replace hL3:=Za (hL3.out.below hb9);replace hF7:=Za (hF7.out.below hb9)
 replace q8:=Za (Zc hb9 q8.out);have hB37:=Za (hB36.out.trans (hb9.mono hB36.out.size));clear hB36;replace q9:=Za q9;clear hb8 hb9;replace hg8:=Za hg8;replace hV8:=Za hV8;replace hV9:=Za hV9;go_wp2_with fail;rw [hV8.out,hg8.out,hV9.out];clear hV8 hV9;have cc38 : V9.cell? ⟨g8,0,none⟩ = some (.int .i64 0):=q8.out.cell 0;have cc39 : V9.cell? ⟨g8,1,none⟩ = some (.int .i64 1099511627772):=q8.out.cell 1;have cc40 : V9.cell? ⟨g8,2,none⟩ = some (.int .i64 (-1)):=q8.out.cell 2;have cc41 : V9.cell? ⟨g8,3,none⟩ = some (.int .i64 0):=q8.out.cell 3;have cc42 : V9.cell? ⟨g8,4,none⟩ = some (.int .i64 0):=q8.out.cell 4;have cc43 : V9.cell? ⟨g8,5,none⟩ = some (.int .i64 0):=q8.out.cell 5;have cc44 : V9.cell? ⟨g8,6,none⟩ = some (.int .i64 0):=q8.out.cell 6;have cc45 : V9.cell? ⟨g8 + 1,0,none⟩ = some (.int .i64 0):=q9.out.cell 0;have cc46 : V9.cell? ⟨g8 + 1,1,none⟩ = some (.int .i64 1099511627780):=q9.out.cell 1;have cc47 : V9.cell? ⟨g8 + 1,2,none⟩ = some (.int .i64 1):=q9.out.cell 2;have cc48 : V9.cell? ⟨g8 + 1,3,none⟩ = some (.int .i64 0):=q9.out.cell 3;have cc49 : V9.cell? ⟨g8 + 1,4,none⟩ = some (.int .i64 0):=q9.out.cell 4;have cc50 : V9.cell? ⟨g8 + 1,5,none⟩ = some (.int .i64 0):=q9.out.cell 5;have cc51 : V9.cell? ⟨g8 + 1,6,none⟩ = some (.int .i64 0):=q9.out.cell 6;have hr52 : Below V9.heap.size V9 V9.drew:=Zi (Below.refl _ _) 1;replace hF1:=Za (hF1.out.below hr52);replace hF2:=Za (hF2.out.below hr52);replace hL3:=Za (hL3.out.below hr52);replace hF7:=Za (hF7.out.below hr52)
 replace q8:=Za (Zc hr52 q8.out);replace q9:=Za (Zc hr52 q9.out);have hB53:=Za (hB37.out.trans (hr52.mono hB37.out.size));clear hB37;replace cc38:=Zb hr52 cc38;replace cc39:=Zb hr52 cc39;replace cc40:=Zb hr52 cc40;replace cc41:=Zb hr52 cc41;replace cc42:=Zb hr52 cc42;replace cc43:=Zb hr52 cc43;replace cc44:=Zb hr52 cc44;replace cc45:=Zb hr52 cc45;replace cc46:=Zb hr52 cc46;replace cc47:=Zb hr52 cc47;replace cc48:=Zb hr52 cc48;replace cc49:=Zb hr52 cc49;replace cc50:=Zb hr52 cc50;replace cc51:=Zb hr52 cc51;clear hr52;refine Zaa [] (fun wx=>(wx.cell? ⟨g8,0,none⟩ = some (.int .i64 0)) /\ (wx.cell? ⟨g8,1,none⟩ = some (.int .i64 1099511627772)) /\ (wx.cell? ⟨g8,2,none⟩ = some (.int .i64 (-1))) /\ (wx.cell? ⟨g8,3,none⟩ = some (.int .i64 0)) /\ (wx.cell? ⟨g8,4,none⟩ = some (.int .i64 0)) /\ (wx.cell? ⟨g8,5,none⟩ = some (.int .i64 0)) /\ (wx.cell? ⟨g8,6,none⟩ = some (.int .i64 0)) /\ (wx.cell? ⟨g8 + 1,0,none⟩ = some (.int .i64 0)) /\ (wx.cell? ⟨g8 + 1,1,none⟩ = some (.int .i64 1099511627780)) /\ (wx.cell? ⟨g8 + 1,2,none⟩ = some (.int .i64 1)) /\ (wx.cell? ⟨g8 + 1,3,none⟩ = some (.int .i64 0)) /\ (wx.cell? ⟨g8 + 1,4,none⟩ = some (.int .i64 0)) /\ (wx.cell? ⟨g8 + 1,5,none⟩ = some (.int .i64 0)) /\ (wx.cell? ⟨g8 + 1,6,none⟩ = some (.int .i64 0))) hmx ⟨cc38,cc39,cc40,cc41,cc42,cc43,cc44,cc45,cc46,cc47,cc48,cc49,cc50,cc51⟩ (fun _=>?_)
 refine Zd (i:=0) (v:=?vt1) rfl (by kernel_rfl) (by kernel_rfl) (by kernel_rfl) (by kernel_rfl) (by kernel_rfl) (Or.inl ⟨by kernel_rfl,?hyt1⟩) ⟨cc38,cc39,cc40,cc41,cc42,cc43,cc44,cc45,cc46,cc47,cc48,cc49,cc50,cc51⟩ ?rt1
 case hyt1=>(intro W2 hSw;(try dsimp only at hSw);go_simp;try with_reducible rfl)
 try simp only [Act.put,putL_a,putL_z,putL_s,putG_a,putG_s,putG_z]
 refine Zd (i:=1) (v:=?vt2) rfl (by kernel_rfl) (by kernel_rfl) (by kernel_rfl) (by kernel_rfl) (by kernel_rfl) (Or.inl ⟨by kernel_rfl,?hyt2⟩) ⟨cc38,cc39,cc40,cc41,cc42,cc43,cc44,cc45,cc46,cc47,cc48,cc49,cc50,cc51⟩ ?rt2
 case hyt2=>(intro W2 hSw;(try dsimp only at hSw);go_simp;try with_reducible rfl)
 try simp only [Act.put,putL_a,putL_z,putL_s,putG_a,putG_s,putG_z]
 refine Zd (i:=2) (v:=?vt3) rfl (by kernel_rfl) (by kernel_rfl) (by kernel_rfl) (by kernel_rfl) (by kernel_rfl) (Or.inl ⟨by kernel_rfl,?hyt3⟩) ⟨cc38,cc39,cc40,cc41,cc42,cc43,cc44,cc45,cc46,cc47,cc48,cc49,cc50,cc51⟩ ?rt3
 case hyt3=>(intro W2 hSw;(try dsimp only at hSw);go_simp;try with_reducible rfl)
 try simp only [Act.put,putL_a,putL_z,putL_s,putG_a,putG_s,putG_z]
 refine Zd (i:=3) (v:=?vt4) rfl (by kernel_rfl) (by kernel_rfl) (by kernel_rfl) (by kernel_rfl) (by kernel_rfl) (Or.inl ⟨by kernel_rfl,?hyt4⟩) ⟨cc38,cc39,cc40,cc41,cc42,cc43,cc44,cc45,cc46,cc47,cc48,cc49,cc50,cc51⟩ ?rt4
 case hyt4=>(intro W2 hSw;(try dsimp only at hSw);go_simp;try with_reducible rfl)
 try simp only [Act.put,putL_a,putL_z,putL_s,putG_a,putG_s,putG_z]
 refine Ze (i:=4) rfl (by kernel_rfl) (fun K hK=>?_);(try rw [if_pos (by kernel_rfl)]);go_simp;refine (Zbq 1 4 V9.drew (by decide) (by decide) (by decide) (by decide)).mono ?_;rintro e w54 ⟨hbr1,r1n,r1A,r1k,r1c,r1m,r1B,r1j,r1d,rfl,r1f⟩;replace hF1:=Za (hF1.out.below hbr1);replace hF2:=Za (hF2.out.below hbr1);replace hL3:=Za (hL3.out.below hbr1);replace hF7:=Za (hF7.out.below hbr1);replace q8:=Za (Zc hbr1 q8.out);replace q9:=Za (Zc hbr1 q9.out);have hB55:=Za (hB53.out.trans (hbr1.mono hB53.out.size));clear hB53;replace cc38:=Zb hbr1 cc38;replace cc39:=Zb hbr1 cc39;replace cc40:=Zb hbr1 cc40;replace cc41:=Zb hbr1 cc41;replace cc42:=Zb hbr1 cc42;replace cc43:=Zb hbr1 cc43;replace cc44:=Zb hbr1 cc44;replace cc45:=Zb hbr1 cc45;replace cc46:=Zb hbr1 cc46;replace cc47:=Zb hbr1 cc47;replace cc48:=Zb hbr1 cc48;replace cc49:=Zb hbr1 cc49;replace cc50:=Zb hbr1 cc50;replace cc51:=Zb hbr1 cc51;clear hbr1;rw [one_four.1] at r1f;replace r1f:=Za r1f;refine hK.out _ _ (fun _=>⟨cc38,cc39,cc40,cc41,cc42,cc43,cc44,cc45,cc46,cc47,cc48,cc49,cc50,cc51⟩) ?_;clear hK K
 try simp only [Act.put,putL_a,putL_z,putL_s,putG_a,putG_s,putG_z]
 refine Ze (i:=5) rfl (by kernel_rfl) (fun K hK=>?_);(try rw [if_pos (by kernel_rfl)]);go_simp;refine (Zbq 1 2 w54 (by decide) (by decide) (by decide) (by decide)).mono ?_;rintro e w56 ⟨hbr2,r2n,r2A,r2k,r2c,r2m,r2B,r2j,r2d,rfl,r2f⟩;replace hF1:=Za (hF1.out.below hbr2);replace hF2:=Za (hF2.out.below hbr2);replace hL3:=Za (hL3.out.below hbr2);replace hF7:=Za (hF7.out.below hbr2);replace q8:=Za (Zc hbr2 q8.out);replace q9:=Za (Zc hbr2 q9.out);replace r1f:=Za (r1f.out.below hbr2);have hB57:=Za (hB55.out.trans (hbr2.mono hB55.out.size));clear hB55;replace cc38:=Zb hbr2 cc38;replace cc39:=Zb hbr2 cc39;replace cc40:=Zb hbr2 cc40;replace cc41:=Zb hbr2 cc41;replace cc42:=Zb hbr2 cc42;replace cc43:=Zb hbr2 cc43;replace cc44:=Zb hbr2 cc44;replace cc45:=Zb hbr2 cc45;replace cc46:=Zb hbr2 cc46;replace cc47:=Zb hbr2 cc47;replace cc48:=Zb hbr2 cc48;replace cc49:=Zb hbr2 cc49;replace cc50:=Zb hbr2 cc50;replace cc51:=Zb hbr2 cc51;clear hbr2;rw [one_four.2.1] at r2f;replace r2f:=Za r2f;refine hK.out _ _ (fun _=>⟨cc38,cc39,cc40,cc41,cc42,cc43,cc44,cc45,cc46,cc47,cc48,cc49,cc50,cc51⟩) ?_;clear hK K
 try simp only [Act.put,putL_a,putL_z,putL_s,putG_a,putG_s,putG_z]
 refine Ze (i:=6) rfl (by kernel_rfl) (fun K hK=>?_);(try rw [if_pos (by kernel_rfl)]);go_simp;refine (Zbq 1 4 w56 (by decide) (by decide) (by decide) (by decide)).mono ?_;rintro e w58 ⟨hbr3,r3n,r3A,r3k,r3c,r3m,r3B,r3j,r3d,rfl,r3f⟩;replace hF1:=Za (hF1.out.below hbr3);replace hF2:=Za (hF2.out.below hbr3);replace hL3:=Za (hL3.out.below hbr3);replace hF7:=Za (hF7.out.below hbr3);replace q8:=Za (Zc hbr3 q8.out);replace q9:=Za (Zc hbr3 q9.out);replace r1f:=Za (r1f.out.below hbr3);replace r2f:=Za (r2f.out.below hbr3);have hB59:=Za (hB57.out.trans (hbr3.mono hB57.out.size));clear hB57;replace cc38:=Zb hbr3 cc38;replace cc39:=Zb hbr3 cc39;replace cc40:=Zb hbr3 cc40;replace cc41:=Zb hbr3 cc41;replace cc42:=Zb hbr3 cc42;replace cc43:=Zb hbr3 cc43;replace cc44:=Zb hbr3 cc44;replace cc45:=Zb hbr3 cc45;replace cc46:=Zb hbr3 cc46;replace cc47:=Zb hbr3 cc47;replace cc48:=Zb hbr3 cc48;replace cc49:=Zb hbr3 cc49;replace cc50:=Zb hbr3 cc50;replace cc51:=Zb hbr3 cc51;clear hbr3;rw [one_four.1] at r3f;replace r3f:=Za r3f;refine hK.out _ _ (fun _=>⟨cc38,cc39,cc40,cc41,cc42,cc43,cc44,cc45,cc46,cc47,cc48,cc49,cc50,cc51⟩) ?_;clear hK K
 try simp only [Act.put,putL_a,putL_z,putL_s,putG_a,putG_s,putG_z]
 obtain ⟨g60,hg61⟩ : ∃ g,w58.heap.size = g:=⟨_,rfl⟩;obtain ⟨V62,hV63,q64,hb65⟩:=Zbx (w:=w58) 29 #[.bool r1n,.slice r1A r1k r1c,.bool r1m,.slice r1B r1j r1d,.bool r2n,.slice r2A r2k r2c,.bool r2m,.slice r2B r2j r2d,.bool r3n,.slice r3A r3k r3c,.bool r3m,.slice r3B r3j r3d];rw [hg61] at q64;refine Ze (i:=7) rfl (by kernel_rfl) (fun K hK=>?_);(try rw [if_pos (by kernel_rfl)]);go_simp;(try rw [hg61]);(try rw [hV63]);clear hV63;replace hF1:=Za (hF1.out.below hb65);replace hF2:=Za (hF2.out.below hb65);replace hL3:=Za (hL3.out.below hb65);replace hF7:=Za (hF7.out.below hb65);replace q8:=Za (Zc hb65 q8.out);replace q9:=Za (Zc hb65 q9.out);replace r1f:=Za (r1f.out.below hb65);replace r2f:=Za (r2f.out.below hb65);replace r3f:=Za (r3f.out.below hb65);have hB66:=Za (hB59.out.trans (hb65.mono hB59.out.size));clear hB59;replace cc38:=Zb hb65 cc38;replace cc39:=Zb hb65 cc39;replace cc40:=Zb hb65 cc40;replace cc41:=Zb hb65 cc41;replace cc42:=Zb hb65 cc42;replace cc43:=Zb hb65 cc43;replace cc44:=Zb hb65 cc44;replace cc45:=Zb hb65 cc45;replace cc46:=Zb hb65 cc46;replace cc47:=Zb hb65 cc47;replace cc48:=Zb hb65 cc48;replace cc49:=Zb hb65 cc49;replace cc50:=Zb hb65 cc50;replace cc51:=Zb hb65 cc51;clear hb65;replace q64:=Za q64;replace hg61:=Za hg61;refine hK.out _ _ (fun _=>⟨cc38,cc39,cc40,cc41,cc42,cc43,cc44,cc45,cc46,cc47,cc48,cc49,cc50,cc51⟩) ?_;clear hK K
 try simp only [Act.put,putL_a,putL_z,putL_s,putG_a,putG_s,putG_z]
 have hFr : FL V62 (some ⟨g60,0,none⟩) 3 3 [1 / 4,1 / 2,1 / 4]:=FL.made (es:=[⟨r1n,r1A,r1k,r1c,r1m,r1B,r1j,r1d,1 / 4⟩,⟨r2n,r2A,r2k,r2c,r2m,r2B,r2j,r2d,1 / 2⟩,⟨r3n,r3A,r3k,r3c,r3m,r3B,r3j,r3d,1 / 4⟩]) q64.out (fun e he=>by
  simp only [List.mem_cons,List.not_mem_nil,or_false] at he
  rcases he with rfl | rfl | rfl
  ·exact r1f.out
  ·exact r2f.out
  ·exact r3f.out) (by simp)
 clear q64 r1f r2f r3f;replace hFr:=Za hFr;refine Ze (i:=8) rfl (by kernel_rfl) (fun K hK=>?_);(try rw [if_pos (by kernel_rfl)]);go_simp;refine (Zfj A1 (some ⟨g60,0,none⟩) 3 k1 3 _ V62 hF1.out.xl hFr.out.xl).mono ?_;rintro e w67 ⟨rfl,hbS⟩;replace hF1:=Za (hF1.out.below hbS);replace hF2:=Za (hF2.out.below hbS);replace hL3:=Za (hL3.out.below hbS);replace hF7:=Za (hF7.out.below hbS);replace q8:=Za (Zc hbS q8.out);replace q9:=Za (Zc hbS q9.out);replace hFr:=Za (hFr.out.below hbS);have hB68:=Za (hB66.out.trans (hbS.mono hB66.out.size));clear hB66;replace cc38:=Zb hbS cc38;replace cc39:=Zb hbS cc39;replace cc40:=Zb hbS cc40;replace cc41:=Zb hbS cc41;replace cc42:=Zb hbS cc42;replace cc43:=Zb hbS cc43;replace cc44:=Zb hbS cc44;replace cc45:=Zb hbS cc45;replace cc46:=Zb hbS cc46;replace cc47:=Zb hbS cc47;replace cc48:=Zb hbS cc48;replace cc49:=Zb hbS cc49;replace cc50:=Zb hbS cc50;replace cc51:=Zb hbS cc51;clear hbS;refine hK.out _ _ (fun _=>⟨cc38,cc39,cc40,cc41,cc42,cc43,cc44,cc45,cc46,cc47,cc48,cc49,cc50,cc51⟩) ?_;clear hK K
 try simp only [Act.put,putL_a,putL_z,putL_s,putG_a,putG_s,putG_z]
 clear hF1 hFr;refine Zd (i:=9) (v:=?vt5) rfl (by kernel_rfl) (by kernel_rfl) (by kernel_rfl) (by kernel_rfl) (by kernel_rfl) (Or.inl ⟨by kernel_rfl,?hyt5⟩) ⟨cc38,cc39,cc40,cc41,cc42,cc43,cc44,cc45,cc46,cc47,cc48,cc49,cc50,cc51⟩ ?rt5
 case hyt5=>(intro W2 hSw;(try dsimp only at hSw);go_simp;try with_reducible rfl)
 try simp only [Act.put,putL_a,putL_z,putL_s,putG_a,putG_s,putG_z]
 refine Zd (i:=10) (v:=?vt6) rfl (by kernel_rfl) (by kernel_rfl) (by kernel_rfl) (by kernel_rfl) (by kernel_rfl) (Or.inl ⟨by kernel_rfl,?hyt6⟩) ⟨cc38,cc39,cc40,cc41,cc42,cc43,cc44,cc45,cc46,cc47,cc48,cc49,cc50,cc51⟩ ?rt6
 case hyt6=>(intro W2 hSw;(try dsimp only at hSw);go_simp;try with_reducible rfl)
 try simp only [Act.put,putL_a,putL_z,putL_s,putG_a,putG_s,putG_z]
 refine Zd (i:=11) (v:=?vt7) rfl (by kernel_rfl) (by kernel_rfl) (by kernel_rfl) (by kernel_rfl) (by kernel_rfl) (Or.inl ⟨by kernel_rfl,?hyt7⟩) ⟨cc38,cc39,cc40,cc41,cc42,cc43,cc44,cc45,cc46,cc47,cc48,cc49,cc50,cc51⟩ ?rt7
 case hyt7=>(intro W2 hSw;(try dsimp only at hSw);go_simp;try with_reducible rfl)
 try simp only [Act.put,putL_a,putL_z,putL_s,putG_a,putG_s,putG_z]
 refine Zd (i:=12) (v:=?vt8) rfl (by kernel_rfl) (by kernel_rfl) (by kernel_rfl) (by kernel_rfl) (by kernel_rfl) (Or.inl ⟨by kernel_rfl,?hyt8⟩) ⟨cc38,cc39,cc40,cc41,cc42,cc43,cc44,cc45,cc46,cc47,cc48,cc49,cc50,cc51⟩ ?rt8
 case hyt8=>(intro W2 hSw;(try dsimp only at hSw);go_simp;try with_reducible rfl)
 try simp only [Act.put,putL_a,putL_z,putL_s,putG_a,putG_s,putG_z]
 refine Zd (i:=13) (v:=?vt9) rfl (by kernel_rfl) (by kernel_rfl) (by kernel_rfl) (by kernel_rfl) (by kernel_rfl) (Or.inl ⟨by kernel_rfl,?hyt9⟩) ⟨cc38,cc39,cc40,cc41,cc42,cc43,cc44,cc45,cc46,cc47,cc48,cc49,cc50,cc51⟩ ?rt9
 case hyt9=>(intro W2 hSw;(try dsimp only at hSw);go_simp;try with_reducible rfl)
 try simp only [Act.put,putL_a,putL_z,putL_s,putG_a,putG_s,putG_z]
 refine Zd (i:=14) (v:=?vt10) rfl (by kernel_rfl) (by kernel_rfl) (by kernel_rfl) (by kernel_rfl) (by kernel_rfl) (Or.inl ⟨by kernel_rfl,?hyt10⟩) ⟨cc38,cc39,cc40,cc41,cc42,cc43,cc44,cc45,cc46,cc47,cc48,cc49,cc50,cc51⟩ ?rt10
 case hyt10=>(intro W2 hSw;(try dsimp only at hSw);go_simp;try with_reducible rfl)
 try simp only [Act.put,putL_a,putL_z,putL_s,putG_a,putG_s,putG_z]
 refine Zd (i:=15) (v:=?vt11) rfl (by kernel_rfl) (by kernel_rfl) (by kernel_rfl) (by kernel_rfl) (by kernel_rfl) (Or.inl ⟨by kernel_rfl,?hyt11⟩) ⟨cc38,cc39,cc40,cc41,cc42,cc43,cc44,cc45,cc46,cc47,cc48,cc49,cc50,cc51⟩ ?rt11
 case hyt11=>(intro W2 hSw;(try dsimp only at hSw);go_simp;try with_reducible rfl)
 try simp only [Act.put,putL_a,putL_z,putL_s,putG_a,putG_s,putG_z]
 refine Zd (i:=16) (v:=?vt12) rfl (by kernel_rfl) (by kernel_rfl) (by kernel_rfl) (by kernel_rfl) (by kernel_rfl) (Or.inl ⟨by kernel_rfl,?hyt12⟩) ⟨cc38,cc39,cc40,cc41,cc42,cc43,cc44,cc45,cc46,cc47,cc48,cc49,cc50,cc51⟩ ?rt12
 case hyt12=>(intro W2 hSw;(try dsimp only at hSw);go_simp;try with_reducible rfl)
 try simp only [Act.put,putL_a,putL_z,putL_s,putG_a,putG_s,putG_z]
 refine Ze (i:=17) rfl (by kernel_rfl) (fun K hK=>?_);(try rw [if_pos (by kernel_rfl)]);go_simp;refine (Zfj A2 (some ⟨g25,0,none⟩) 6 k2 6 _ w67 hF2.out.xl hF7.out.xl).mono ?_;rintro e w69 ⟨rfl,hbS⟩;replace hF2:=Za (hF2.out.below hbS);replace hL3:=Za (hL3.out.below hbS);replace hF7:=Za (hF7.out.below hbS);replace q8:=Za (Zc hbS q8.out);replace q9:=Za (Zc hbS q9.out);have hB70:=Za (hB68.out.trans (hbS.mono hB68.out.size));clear hB68;replace cc38:=Zb hbS cc38;replace cc39:=Zb hbS cc39;replace cc40:=Zb hbS cc40;replace cc41:=Zb hbS cc41;replace cc42:=Zb hbS cc42;replace cc43:=Zb hbS cc43;replace cc44:=Zb hbS cc44;replace cc45:=Zb hbS cc45;replace cc46:=Zb hbS cc46;replace cc47:=Zb hbS cc47;replace cc48:=Zb hbS cc48;replace cc49:=Zb hbS cc49;replace cc50:=Zb hbS cc50;replace cc51:=Zb hbS cc51;clear hbS;refine hK.out _ _ (fun _=>⟨cc38,cc39,cc40,cc41,cc42,cc43,cc44,cc45,cc46,cc47,cc48,cc49,cc50,cc51⟩) ?_;clear hK K
 try simp only [Act.put,putL_a,putL_z,putL_s,putG_a,putG_s,putG_z]
 clear hF2 hF7;refine Zd (i:=18) (v:=?vt13) rfl (by kernel_rfl) (by kernel_rfl) (by kernel_rfl) (by kernel_rfl) (by kernel_rfl) (Or.inl ⟨by kernel_rfl,?hyt13⟩) ⟨cc38,cc39,cc40,cc41,cc42,cc43,cc44,cc45,cc46,cc47,cc48,cc49,cc50,cc51⟩ ?rt13
 case hyt13=>(intro W2 hSw;(try dsimp only at hSw);go_simp;try with_reducible rfl)
 try simp only [Act.put,putL_a,putL_z,putL_s,putG_a,putG_s,putG_z]
 refine Zd (i:=19) (v:=?vt14) rfl (by kernel_rfl) (by kernel_rfl) (by kernel_rfl) (by kernel_rfl) (by kernel_rfl) (Or.inl ⟨by kernel_rfl,?hyt14⟩) ⟨cc38,cc39,cc40,cc41,cc42,cc43,cc44,cc45,cc46,cc47,cc48,cc49,cc50,cc51⟩ ?rt14
 case hyt14=>(intro W2 hSw;(try dsimp only at hSw);go_simp;try with_reducible rfl)
 try simp only [Act.put,putL_a,putL_z,putL_s,putG_a,putG_s,putG_z]
 refine Zd (i:=20) (v:=?vt15) rfl (by kernel_rfl) (by kernel_rfl) (by kernel_rfl) (by kernel_rfl) (by kernel_rfl) (Or.inl ⟨by kernel_rfl,?hyt15⟩) ⟨cc38,cc39,cc40,cc41,cc42,cc43,cc44,cc45,cc46,cc47,cc48,cc49,cc50,cc51⟩ ?rt15
 case hyt15=>(intro W2 hSw;(try dsimp only at hSw);go_simp;try with_reducible rfl)
 try simp only [Act.put,putL_a,putL_z,putL_s,putG_a,putG_s,putG_z]
 refine Zd (i:=21) (v:=?vt16) rfl (by kernel_rfl) (by kernel_rfl) (by kernel_rfl) (by kernel_rfl) (by kernel_rfl) (Or.inl ⟨by kernel_rfl,?hyt16⟩) ⟨cc38,cc39,cc40,cc41,cc42,cc43,cc44,cc45,cc46,cc47,cc48,cc49,cc50,cc51⟩ ?rt16
 case hyt16=>(intro W2 hSw;(try dsimp only at hSw);go_simp;try with_reducible rfl)
 try simp only [Act.put,putL_a,putL_z,putL_s,putG_a,putG_s,putG_z]
 refine Zd (i:=22) (v:=?vt17) rfl (by kernel_rfl) (by kernel_rfl) (by kernel_rfl) (by kernel_rfl) (by kernel_rfl) (Or.inl ⟨by kernel_rfl,?hyt17⟩) ⟨cc38,cc39,cc40,cc41,cc42,cc43,cc44,cc45,cc46,cc47,cc48,cc49,cc50,cc51⟩ ?rt17
 case hyt17=>(intro W2 hSw;(try dsimp only at hSw);go_simp;try with_reducible rfl)
 try simp only [Act.put,putL_a,putL_z,putL_s,putG_a,putG_s,putG_z]
 refine Zd (i:=23) (v:=?vt18) rfl (by kernel_rfl) (by kernel_rfl) (by kernel_rfl) (by kernel_rfl) (by kernel_rfl) (Or.inl ⟨by kernel_rfl,?hyt18⟩) ⟨cc38,cc39,cc40,cc41,cc42,cc43,cc44,cc45,cc46,cc47,cc48,cc49,cc50,cc51⟩ ?rt18
 case hyt18=>(intro W2 hSw;(try dsimp only at hSw);go_simp;try with_reducible rfl)
 try simp only [Act.put,putL_a,putL_z,putL_s,putG_a,putG_s,putG_z]
 refine Zd (i:=24) (v:=?vt19) rfl (by kernel_rfl) (by kernel_rfl) (by kernel_rfl) (by kernel_rfl) (by kernel_rfl) (Or.inl ⟨by kernel_rfl,?hyt19⟩) ⟨cc38,cc39,cc40,cc41,cc42,cc43,cc44,cc45,cc46,cc47,cc48,cc49,cc50,cc51⟩ ?rt19
 case hyt19=>(intro W2 hSw;(try dsimp only at hSw);go_simp;try with_reducible rfl)
 try simp only [Act.put,putL_a,putL_z,putL_s,putG_a,putG_s,putG_z]
 refine Zd (i:=25) (v:=?vt20) rfl (by kernel_rfl) (by kernel_rfl) (by kernel_rfl) (by kernel_rfl) (by kernel_rfl) (Or.inl ⟨by kernel_rfl,?hyt20⟩) ⟨cc38,cc39,cc40,cc41,cc42,cc43,cc44,cc45,cc46,cc47,cc48,cc49,cc50,cc51⟩ ?rt20
 case hyt20=>(intro W2 hSw;(try dsimp only at hSw);go_simp;try with_reducible rfl)
 try simp only [Act.put,putL_a,putL_z,putL_s,putG_a,putG_s,putG_z]
 refine Zd (i:=27) (v:=?vt21) rfl (by kernel_rfl) (by kernel_rfl) (by kernel_rfl) (by kernel_rfl) (by kernel_rfl) (Or.inl ⟨by kernel_rfl,?hyt21⟩) ⟨cc38,cc39,cc40,cc41,cc42,cc43,cc44,cc45,cc46,cc47,cc48,cc49,cc50,cc51⟩ ?rt21
 case hyt21=>(intro W2 hSw;(try dsimp only at hSw);go_simp;try with_reducible rfl)
 try simp only [Act.put,putL_a,putL_z,putL_s,putG_a,putG_s,putG_z]
 refine Ze (i:=26) rfl (by kernel_rfl) (fun K hK=>?_);(try rw [if_pos (by kernel_rfl)]);go_simp;refine (Zb9 w69).mono ?_;rintro e w71 ⟨rfl,hbr⟩;replace hL3:=Za (hL3.out.below hbr);replace q8:=Za (Zc hbr q8.out);replace q9:=Za (Zc hbr q9.out);have hB72:=Za (hB70.out.trans (hbr.mono hB70.out.size));clear hB70;replace cc38:=Zb hbr cc38;replace cc39:=Zb hbr cc39;replace cc40:=Zb hbr cc40;replace cc41:=Zb hbr cc41;replace cc42:=Zb hbr cc42;replace cc43:=Zb hbr cc43;replace cc44:=Zb hbr cc44;replace cc45:=Zb hbr cc45;replace cc46:=Zb hbr cc46;replace cc47:=Zb hbr cc47;replace cc48:=Zb hbr cc48;replace cc49:=Zb hbr cc49;replace cc50:=Zb hbr cc50;replace cc51:=Zb hbr cc51;clear hbr;refine hK.out _ _ (fun _=>⟨cc38,cc39,cc40,cc41,cc42,cc43,cc44,cc45,cc46,cc47,cc48,cc49,cc50,cc51⟩) ?_;clear hK K
 try simp only [Act.put,putL_a,putL_z,putL_s,putG_a,putG_s,putG_z]
 obtain ⟨g73,hg74⟩ : ∃ g,w71.heap.size = g:=⟨_,rfl⟩;obtain ⟨V75,hV76,q77,hb78⟩:=Zbx (w:=w71) 46 #[.int .i64 0,.int .i64 1099511627772,.int .i64 (-1),.int .i64 0,.int .i64 0,.int .i64 0,.int .i64 0,.int .i64 0,.int .i64 1099511627776,.int .i64 0,.int .i64 0,.int .i64 0,.int .i64 0,.int .i64 0,.int .i64 0,.int .i64 1099511627780,.int .i64 1,.int .i64 0,.int .i64 0,.int .i64 0,.int .i64 0];rw [hg74] at q77;refine Ze (i:=28) rfl (by kernel_rfl) (fun K hK=>?_);(try rw [if_pos (by kernel_rfl)]);go_simp;(try rw [hg74]);(try rw [hV76]);clear hV76;replace hL3:=Za (hL3.out.below hb78);replace q8:=Za (Zc hb78 q8.out);replace q9:=Za (Zc hb78 q9.out);have hB79:=Za (hB72.out.trans (hb78.mono hB72.out.size));clear hB72;replace cc38:=Zb hb78 cc38;replace cc39:=Zb hb78 cc39;replace cc40:=Zb hb78 cc40;replace cc41:=Zb hb78 cc41;replace cc42:=Zb hb78 cc42;replace cc43:=Zb hb78 cc43;replace cc44:=Zb hb78 cc44;replace cc45:=Zb hb78 cc45;replace cc46:=Zb hb78 cc46;replace cc47:=Zb hb78 cc47;replace cc48:=Zb hb78 cc48;replace cc49:=Zb hb78 cc49;replace cc50:=Zb hb78 cc50;replace cc51:=Zb hb78 cc51;clear hb78;replace q77:=Za q77;replace hg74:=Za hg74;refine hK.out _ _ (fun _=>⟨cc38,cc39,cc40,cc41,cc42,cc43,cc44,cc45,cc46,cc47,cc48,cc49,cc50,cc51⟩) ?_;clear hK K
 try simp only [Act.put,putL_a,putL_z,putL_s,putG_a,putG_s,putG_z]
 have hSs : SL V75 (some ⟨g73,0,none⟩) 3 3 [Zji,restS,Zje]:=SL.made (ss:=[Zji,restS,Zje]) q77.out (by simp);clear q77;replace hSs:=Za hSs;refine Ze (i:=29) rfl (by kernel_rfl) (fun K hK=>?_);(try rw [if_pos (by kernel_rfl)]);go_simp;refine (Zkh A3 (some ⟨g73,0,none⟩) 3 3 k3 3 _ _ V75 hL3.out hSs.out).mono ?_;rintro e w80 ⟨bS,rfl,hbo,hbS⟩;replace hL3:=Za (hL3.out.below hbS);replace q8:=Za (Zc hbS q8.out);replace q9:=Za (Zc hbS q9.out);replace hSs:=Za (hSs.out.below hbS);have hB81:=Za (hB79.out.trans (hbS.mono hB79.out.size));clear hB79;replace cc38:=Zb hbS cc38;replace cc39:=Zb hbS cc39;replace cc40:=Zb hbS cc40;replace cc41:=Zb hbS cc41;replace cc42:=Zb hbS cc42;replace cc43:=Zb hbS cc43;replace cc44:=Zb hbS cc44;replace cc45:=Zb hbS cc45;replace cc46:=Zb hbS cc46;replace cc47:=Zb hbS cc47;replace cc48:=Zb hbS cc48;replace cc49:=Zb hbS cc49;replace cc50:=Zb hbS cc50;replace cc51:=Zb hbS cc51;clear hbS;obtain rfl : bS = true:=hbo.2 rfl;clear hbo;refine hK.out _ _ (fun _=>⟨cc38,cc39,cc40,cc41,cc42,cc43,cc44,cc45,cc46,cc47,cc48,cc49,cc50,cc51⟩) ?_;clear hK K
 try simp only [Act.put,putL_a,putL_z,putL_s,putG_a,putG_s,putG_z]
 refine Zd (i:=30) (v:=?vt22) rfl (by kernel_rfl) (by kernel_rfl) (by kernel_rfl) (by kernel_rfl) (by kernel_rfl) (Or.inl ⟨by kernel_rfl,?hyt22⟩) ⟨cc38,cc39,cc40,cc41,cc42,cc43,cc44,cc45,cc46,cc47,cc48,cc49,cc50,cc51⟩ ?rt22
 case hyt22=>(intro W2 hSw;(try dsimp only at hSw);go_simp;try with_reducible rfl)
 try simp only [Act.put,putL_a,putL_z,putL_s,putG_a,putG_s,putG_z]
 refine Zx (i:=31) (v:=?vt23) rfl (by kernel_rfl) (by kernel_rfl) (by kernel_rfl) (by kernel_rfl) (Or.inl ⟨by kernel_rfl,?hyt23⟩) (fun _=>⟨cc38,cc39,cc40,cc41,cc42,cc43,cc44,cc45,cc46,cc47,cc48,cc49,cc50,cc51⟩) ?rt23
 case hyt23=>(intro W2 _;go_simp;try with_reducible rfl)
 try simp only [Act.put,putL_a,putL_z,putL_s,putG_a,putG_s,putG_z]
 refine Zl (by kernel_rfl) ?_ _;refine OnlyNormal.normal ?_;clear cc38 cc39 cc40 cc41 cc42 cc43 cc44 cc45 cc46 cc47 cc48 cc49 cc50 cc51;go_wp2_with fail;go_ret;exact ⟨rfl,hB81.out⟩
theorem Zod (w : World) : Calls Tryz.prog 8 #[] w fun e w'=>e = .returned (.bool true) /\ Below w.heap.size w w':=by
 have hmx : Tryz.prog.follows .mixedOrders = true:=by kernel_rfl
 have hBB : Hid (Below w.heap.size w w):=Za (Below.refl _ _);go_enter Tryz.func8,Tryz.ntmps8;go_wp2_with fail;refine (Zbq 1 1 w (by decide) (by decide) (by decide) (by decide)).mono ?_;rintro e w1 ⟨hbp,p1n,p1A,p1k,p1c,p1m,p1B,p1j,p1d,rfl,p1f⟩;have hB2:=Za (hBB.out.trans (hbp.mono hBB.out.size));clear hBB;clear hbp;rw [one_four.2.2.1] at p1f;replace p1f:=Za p1f;obtain ⟨g3,hg4⟩ : ∃ g,w1.heap.size = g:=⟨_,rfl⟩;obtain ⟨V5,hV6,q7,hb8⟩:=Zbx (w:=w1) 29 #[.bool p1n,.slice p1A p1k p1c,.bool p1m,.slice p1B p1j p1d];rw [hg4] at q7;replace p1f:=Za (p1f.out.below hb8);have hB9:=Za (hB2.out.trans (hb8.mono hB2.out.size));clear hB2;clear hb8;replace q7:=Za q7
 have hFp : FL V5 (some ⟨g3,0,none⟩) 1 1 [1]:=FL.made (es:=[⟨p1n,p1A,p1k,p1c,p1m,p1B,p1j,p1d,1⟩]) q7.out (fun e he=>by
  rw [List.mem_singleton] at he;subst he;exact p1f.out) (by simp)
 replace hFp:=Za hFp;clear q7 p1f;obtain ⟨g10,hg11⟩ : ∃ g,V5.heap.size = g:=⟨_,rfl⟩;obtain ⟨V12,hV13,q14,hb15⟩:=Zbx (w:=V5) 23 #[.slice (some ⟨g3,0,none⟩) 1 1];rw [hg11] at q14;replace hFp:=Za (hFp.out.below hb15);have hB16:=Za (hB9.out.trans (hb15.mono hB9.out.size));clear hB9;clear hb15;replace q14:=Za q14;have hM2 : MFL V12 (some ⟨g10,0,none⟩) 1 1 [[1]]:=MFL.oneR q14.out hFp.out;obtain ⟨rs2,hX2,hqq2,hs2⟩:=hM2.mxs;have hC2:=Za (FacC.of hX2 (two_few hs2) (fun _=>by decide));have hd2:=Za (two_dir hs2);clear hM2 hqq2 hs2;clear hFp q14;replace hX2:=Za hX2;go_wp2_with fail;(try rw [hg4]);(try rw [hV6]);(try rw [hg11]);(try rw [hV13]);clear hV6;replace hg4:=Za hg4;clear hV13;replace hg11:=Za hg11;refine (Zat (some ⟨g10,0,none⟩) 1 1 rs2 0 V12 hX2.out hC2.out (by decide) (by decide)).mono ?_;rintro e w17 ⟨hb2,hd⟩;replace hX2:=Za (hX2.out.below hb2);have hB18:=Za (hB16.out.trans (hb2.mono hB16.out.size));clear hB16;clear hb2
 rcases hd with ⟨hd,-⟩ | ⟨-,rfl⟩
 case inl=>rw [hd2.out] at hd;exact absurd hd (by decide)
 rw [hd2.out];clear hC2 hd2;clear hX2;go_wp2_with fail;refine (Zca w17).mono ?_;rintro e w19 ⟨va,rfl,hba,La,hOa⟩;have hB20:=Za (hB18.out.trans (hba.mono hB18.out.size));clear hB18;clear hba;obtain ⟨Aa,ka,rfl,hMa⟩:=hOa.mflA;rw [Zaz] at hMa ⊢;obtain ⟨rsa,hXa,hqa,hsa⟩:=hMa.mxs;have hcapa:=hXa.2.2.1;unfold maxLen at hcapa;have hc6a:=hXa.2.1;have hCa:=Za (FacC.of hXa (Z5 hsa) (fun _=>by decide));have hfa:=Za ((Z5 hsa).mono (show 1 <= 3 by decide));replace hqa:=Za hqa;replace hsa:=Za hsa;clear hOa hMa La;replace hXa:=Za hXa;go_wp2_with fail;refine (Zat Aa 6 ka rsa 6 w19 hXa.out hCa.out (by decide) (by decide)).mono ?_;rintro e w21 ⟨hb2,hd⟩;replace hXa:=Za (hXa.out.below hb2);have hB22:=Za (hB20.out.trans (hb2.mono hB20.out.size));clear hB20;clear hb2;have hE:=Zpa hsa.out
 rcases hd with ⟨hd,-⟩ | ⟨-,rfl⟩
 case inl=>rw [hE] at hd;exact absurd hd (by decide)
 rw [hE];clear hE;clear hXa;clear hCa hfa hqa hsa hc6a;go_wp2_with fail;refine (Zat none 0 0 [] 0 w21 (MXL.nilR _) Zpj (by decide) (by decide)).mono ?_;rintro e w23 ⟨hb2,hd⟩;have hB24:=Za (hB22.out.trans (hb2.mono hB22.out.size));clear hB22;clear hb2
 rcases hd with ⟨hd,-⟩ | ⟨-,rfl⟩
 case inl=>rw [Zno] at hd;exact absurd hd (by decide)
 rw [Zno];go_wp2_with fail;refine (Zca w23).mono ?_;rintro e w25 ⟨vb,rfl,hbb,Lb,hOb⟩;have hB26:=Za (hB24.out.trans (hbb.mono hB24.out.size));clear hB24;clear hbb;obtain ⟨Ab,kb,rfl,hMb⟩:=hOb.mflA;rw [Zaz] at hMb ⊢;obtain ⟨rsb,hXb,hqb,hsb⟩:=hMb.mxs;have hcapb:=hXb.2.2.1;unfold maxLen at hcapb;have hc6b:=hXb.2.1;have hCb:=Za (FacC.of hXb (Z5 hsb) (fun _=>by decide));have hfb:=Za ((Z5 hsb).mono (show 1 <= 3 by decide));replace hqb:=Za hqb;replace hsb:=Za hsb;clear hOb hMb Lb;replace hXb:=Za hXb;go_wp2_with fail;refine (Zf6 St.zero Ab 6 kb rsb 0 1 w25 hXb.out hCb.out (by decide) (by decide) (by decide) (by decide) (fun h0=>Zev hXb.out hfb.out h0 (by decide) (by decide))).mono ?_;rintro e w27 ⟨rfl,hb2⟩;replace hXb:=Za (hXb.out.below hb2);have hB28:=Za (hB26.out.trans (hb2.mono hB26.out.size));clear hB26;clear hb2;obtain ⟨hE,hV⟩:=Zo1 rsb;rw [hE,hV,St.zeroC];clear hE hV;clear hXb;clear hCb hfb hqb hsb hc6b;obtain ⟨g29,hg30⟩ : ∃ g,w27.heap.size = g:=⟨_,rfl⟩;obtain ⟨V31,hV32,q33,hb34⟩:=Zbx (w:=w27) 46 #[.int .i64 0,.int .i64 0,.int .i64 0,.int .i64 0,.int .i64 0,.int .i64 0,.int .i64 0];rw [hg30] at q33;have hB35:=Za (hB28.out.trans (hb34.mono hB28.out.size));clear hB28;clear hb34;replace q33:=Za q33;replace hg30:=Za hg30;replace hV32:=Za hV32;go_wp2_with fail;rw [hV32.out];(try rw [hg30.out]);clear hV32;clear q33;refine (Zb9 V31).mono ?_;rintro e w36 ⟨rfl,hbr⟩;have hB37:=Za (hB35.out.trans (hbr.mono hB35.out.size));clear hB35;clear hbr;go_wp2_with fail;refine (Zca w36).mono ?_
 rintro e w38 ⟨vc,rfl,hbc,Lc,hOc⟩;have hB39:=Za (hB37.out.trans (hbc.mono hB37.out.size));clear hB37;clear hbc;obtain ⟨Ac,kc,rfl,hMc⟩:=hOc.mflA;rw [Zaz] at hMc ⊢;obtain ⟨rsc,hXc,hqc,hsc⟩:=hMc.mxs;have hcapc:=hXc.2.2.1;unfold maxLen at hcapc;have hc6c:=hXc.2.1;have hCc:=Za (FacC.of hXc (Z5 hsc) (fun _=>by decide));have hfc:=Za ((Z5 hsc).mono (show 1 <= 3 by decide));replace hqc:=Za hqc;replace hsc:=Za hsc;clear hOc hMc Lc;replace hXc:=Za hXc;go_wp2_with fail;refine (Zf6 restS Ac 6 kc rsc 0 8796093022208 w38 hXc.out hCc.out (by decide) (by decide) (by decide) (by decide) (fun h0=>Zev hXc.out hfc.out h0 (by decide) (by decide))).mono ?_;rintro e w40 ⟨rfl,hb2⟩;replace hXc:=Za (hXc.out.below hb2);have hB41:=Za (hB39.out.trans (hb2.mono hB39.out.size));clear hB39;clear hb2;obtain ⟨hE,hV⟩:=Zoy hqc.out hsc.out;rw [hE,hV,St.zeroC];clear hE hV;clear hXc;clear hCc hfc hqc hsc hc6c;obtain ⟨g42,hg43⟩ : ∃ g,w40.heap.size = g:=⟨_,rfl⟩;obtain ⟨V44,hV45,q46,hb47⟩:=Zbx (w:=w40) 46 #[.int .i64 0,.int .i64 0,.int .i64 0,.int .i64 0,.int .i64 0,.int .i64 0,.int .i64 0];rw [hg43] at q46;have hB48:=Za (hB41.out.trans (hb47.mono hB41.out.size));clear hB41;clear hb47;replace q46:=Za q46;replace hg43:=Za hg43;replace hV45:=Za hV45;go_wp2_with fail;rw [hV45.out];(try rw [hg43.out]);clear hV45;clear q46;refine (Zb9 V44).mono ?_;rintro e w49 ⟨rfl,hbr⟩;have hB50:=Za (hB48.out.trans (hbr.mono hB48.out.size));clear hB48;clear hbr;go_wp2_with fail;refine (Zca w49).mono ?_;rintro e w51 ⟨vd,rfl,hbd,Ld,hOd⟩
 have hB52:=Za (hB50.out.trans (hbd.mono hB50.out.size));clear hB50;clear hbd;obtain ⟨Ad,kd,rfl,hMd⟩:=hOd.mflA;rw [Zaz] at hMd ⊢;obtain ⟨rsd,hXd,hqd,hsd⟩:=hMd.mxs;have hcapd:=hXd.2.2.1;unfold maxLen at hcapd;have hc6d:=hXd.2.1;have hCd:=Za (FacC.of hXd (Z5 hsd) (fun _=>by decide));have hfd:=Za ((Z5 hsd).mono (show 1 <= 3 by decide));replace hqd:=Za hqd;replace hsd:=Za hsd;clear hOd hMd Ld;replace hXd:=Za hXd;go_wp2_with fail;refine (Zd0 restS Ad 6 kd rsd 0 0 1 w51 hXd.out hCd.out hfd.out (by decide) (by decide) (by decide) (by decide) (by decide) (by decide)).mono ?_;rintro e w53 ⟨hb3,hl⟩;replace hXd:=Za (hXd.out.below hb3);have hB54:=Za (hB52.out.trans (hb3.mono hB52.out.size));clear hB52;clear hb3;have hE:=Zgc (step:=0) (n:=1) hsd.out (by decide)
 rcases hl with ⟨hl,-⟩ | ⟨-,rfl⟩
 case inl=>rw [hE] at hl;exact absurd hl (by decide)
 rw [hE];clear hE;clear hXd;clear hCd hfd hqd hsd hc6d;go_wp2_with fail;refine (Zb9 w53).mono ?_;rintro e w55 ⟨rfl,hbr⟩;have hB56:=Za (hB54.out.trans (hbr.mono hB54.out.size));clear hB54;clear hbr;go_wp2_with fail;refine (Zca w55).mono ?_;rintro e w57 ⟨ve,rfl,hbe,Le,hOe⟩;have hB58:=Za (hB56.out.trans (hbe.mono hB56.out.size));clear hB56;clear hbe;obtain ⟨Ae,ke,rfl,hMe⟩:=hOe.mflA;rw [Zaz] at hMe ⊢;obtain ⟨rse,hXe,hqe,hse⟩:=hMe.mxs;have hcape:=hXe.2.2.1;unfold maxLen at hcape;have hc6e:=hXe.2.1;have hCe:=Za (FacC.of hXe (Z5 hse) (fun _=>by decide));have hfe:=Za ((Z5 hse).mono (show 1 <= 3 by decide));replace hqe:=Za hqe;replace hse:=Za hse;clear hOe hMe Le;replace hXe:=Za hXe;go_wp2_with fail;refine (Zd0 restS Ae 6 ke rse 0 1 21 w57 hXe.out hCe.out hfe.out (by decide) (by decide) (by decide) (by decide) (by decide) (by decide)).mono ?_;rintro e w59 ⟨hb3,hl⟩;replace hXe:=Za (hXe.out.below hb3);have hB60:=Za (hB58.out.trans (hb3.mono hB58.out.size));clear hB58;clear hb3;have hE:=Zgc (step:=1) (n:=21) hse.out (by decide)
 rcases hl with ⟨hl,-⟩ | ⟨-,rfl⟩
 case inl=>rw [hE] at hl;exact absurd hl (by decide)
 rw [hE];clear hE;clear hXe;clear hCe hfe hqe hse hc6e;go_wp2_with fail;refine (Zb9 w59).mono ?_;rintro e w61 ⟨rfl,hbr⟩;have hB62:=Za (hB60.out.trans (hbr.mono hB60.out.size));clear hB60;clear hbr;go_wp2_with fail;refine (Zca w61).mono ?_;rintro e w63 ⟨vf,rfl,hbf,Lf,hOf⟩;have hB64:=Za (hB62.out.trans (hbf.mono hB62.out.size));clear hB62;clear hbf;obtain ⟨Af,kf,rfl,hMf⟩:=hOf.mflA;rw [Zaz] at hMf ⊢;obtain ⟨rsf,hXf,hqf,hsf⟩:=hMf.mxs;have hcapf:=hXf.2.2.1;unfold maxLen at hcapf;have hc6f:=hXf.2.1;have hCf:=Za (FacC.of hXf (Z5 hsf) (fun _=>by decide));have hff:=Za ((Z5 hsf).mono (show 1 <= 3 by decide));replace hqf:=Za hqf;replace hsf:=Za hsf;clear hOf hMf Lf;replace hXf:=Za hXf;go_wp2_with fail;refine (Zd0 restS Af 6 kf rsf 0 1125899906842625 1 w63 hXf.out hCf.out hff.out (by decide) (by decide) (by decide) (by decide) (by decide) (by decide)).mono ?_;rintro e w65 ⟨hb3,hl⟩;replace hXf:=Za (hXf.out.below hb3);have hB66:=Za (hB64.out.trans (hb3.mono hB64.out.size));clear hB64;clear hb3;have hE:=Zgc (step:=1125899906842625) (n:=1) hsf.out (by decide)
 rcases hl with ⟨hl,-⟩ | ⟨-,rfl⟩
 case inl=>rw [hE] at hl;exact absurd hl (by decide)
 rw [hE];clear hE;clear hXf;clear hCf hff hqf hsf hc6f;go_wp2_with fail;refine (Zdt (-1) w65 (by decide) (by decide)).mono ?_;rintro e w67 ⟨hb3,hl⟩;have hB68:=Za (hB66.out.trans (hb3.mono hB66.out.size));clear hB66;clear hb3
 rcases hl with ⟨h,-⟩ | ⟨-,rfl⟩
 case inl=>exact absurd h (by decide)
 go_wp2_with fail;refine (Zdt 20 w67 (by decide) (by decide)).mono ?_;rintro e w69 ⟨hb3,hl⟩;have hB70:=Za (hB68.out.trans (hb3.mono hB68.out.size));clear hB68;clear hb3
 rcases hl with ⟨-,-,Aw,kw,rfl,hFw⟩ | ⟨h,-⟩
 case inr=>exact absurd (by decide) h
 rw [show 2 * (20 : Int).toNat + 1 = 41 from rfl] at hFw ⊢;have hcw:=hFw.cap;unfold maxLen at hcw;clear hFw;go_wp2_with fail;refine (Zca w69).mono ?_;rintro e w71 ⟨vg,rfl,hbg,Lg,hOg⟩;have hB72:=Za (hB70.out.trans (hbg.mono hB70.out.size));clear hB70;clear hbg;obtain ⟨Ag,kg,rfl,hMg⟩:=hOg.mflA;rw [Zaz] at hMg ⊢;obtain ⟨rsg,hXg,hqg,hsg⟩:=hMg.mxs;have hcapg:=hXg.2.2.1;unfold maxLen at hcapg;have hc6g:=hXg.2.1;have hCg:=Za (FacC.of hXg (Z5 hsg) (fun _=>by decide));have hfg:=Za ((Z5 hsg).mono (show 1 <= 3 by decide));replace hqg:=Za hqg;replace hsg:=Za hsg;clear hOg hMg Lg;replace hXg:=Za hXg;go_wp2_with fail;refine (Znl Ag 6 kg rsg 3 w71 hXg.out hCg.out (by decide) (by decide)).mono ?_;rintro e w73 ⟨rfl,hb3⟩;replace hXg:=Za (hXg.out.below hb3);have hB74:=Za (hB72.out.trans (hb3.mono hB72.out.size));clear hB72;clear hb3;obtain ⟨hE,hV⟩:=Zks hqg.out hsg.out;rw [hE,hV];clear hE hV;clear hXg;clear hCg hfg hqg hsg hc6g;go_wp2_with fail;refine (Zb9 w73).mono ?_;rintro e w75 ⟨rfl,hbr⟩;have hB76:=Za (hB74.out.trans (hbr.mono hB74.out.size));clear hB74;clear hbr;go_wp2_with fail;refine (Zca w75).mono ?_;rintro e w77 ⟨vh,rfl,hbh,Lh,hOh⟩;have hB78:=Za (hB76.out.trans (hbh.mono hB76.out.size));clear hB76;clear hbh;obtain ⟨Ah,kh,rfl,hMh⟩:=hOh.mflA;rw [Zaz] at hMh ⊢;obtain ⟨rsh,hXh,hqh,hsh⟩:=hMh.mxs;have hcaph:=hXh.2.2.1;unfold maxLen at hcaph;have hc6h:=hXh.2.1;have hCh:=Za (FacC.of hXh (Z5 hsh) (fun _=>by decide));have hfh:=Za ((Z5 hsh).mono (show 1 <= 3 by decide));replace hqh:=Za hqh
 replace hsh:=Za hsh;clear hOh hMh Lh;replace hXh:=Za hXh;go_wp2_with fail;refine (Zf6 restS Ah 6 kh rsh 5 0 w77 hXh.out hCh.out (by decide) (by decide) (by decide) (by decide) (fun h0=>Zev hXh.out hfh.out h0 (by decide) (by decide))).mono ?_;rintro e w79 ⟨rfl,hb2⟩;replace hXh:=Za (hXh.out.below hb2);have hB80:=Za (hB78.out.trans (hb2.mono hB78.out.size));clear hB78;clear hb2;obtain ⟨hE,hV⟩:=Zmw hqh.out hsh.out;rw [hE,hV,restC];clear hE hV;clear hXh;clear hCh hfh hqh hsh hc6h;obtain ⟨g81,hg82⟩ : ∃ g,w79.heap.size = g:=⟨_,rfl⟩;obtain ⟨V83,hV84,q85,hb86⟩:=Zbx (w:=w79) 46 #[.int .i64 0,.int .i64 1099511627776,.int .i64 0,.int .i64 0,.int .i64 0,.int .i64 0,.int .i64 0];rw [hg82] at q85;have hB87:=Za (hB80.out.trans (hb86.mono hB80.out.size));clear hB80;clear hb86;replace q85:=Za q85;replace hg82:=Za hg82;replace hV84:=Za hV84;go_wp2_with fail;rw [hV84.out];(try rw [hg82.out]);clear hV84;refine (Zb9 V83).mono ?_;rintro e w88 ⟨rfl,hbr⟩;replace q85:=Za (Zc hbr q85.out);have hB89:=Za (hB87.out.trans (hbr.mono hB87.out.size));clear hB87;clear hbr;go_wp2_with fail;refine (Zca w88).mono ?_;rintro e w90 ⟨vi,rfl,hbi,Li,hOi⟩;replace q85:=Za (Zc hbi q85.out);have hB91:=Za (hB89.out.trans (hbi.mono hB89.out.size));clear hB89;clear hbi;obtain ⟨Ai,ki,rfl,hMi⟩:=hOi.mflA;rw [Zaz] at hMi ⊢;obtain ⟨rsi,hXi,hqi,hsi⟩:=hMi.mxs;have hcapi:=hXi.2.2.1;unfold maxLen at hcapi;have hc6i:=hXi.2.1;have hCi:=Za (FacC.of hXi (Z5 hsi) (fun _=>by decide));have hfi:=Za ((Z5 hsi).mono (show 1 <= 3 by decide))
 replace hqi:=Za hqi;replace hsi:=Za hsi;clear hOi hMi Li;replace hXi:=Za hXi;go_wp2_with fail;refine (Zd0 restS Ai 6 ki rsi 0 1125899906842624 1 w90 hXi.out hCi.out hfi.out (by decide) (by decide) (by decide) (by decide) (by decide) (by decide)).mono ?_;rintro e w92 ⟨hb3,hl⟩;replace q85:=Za (Zc hb3 q85.out);replace hXi:=Za (hXi.out.below hb3);have hB93:=Za (hB91.out.trans (hb3.mono hB91.out.size));clear hB91;clear hb3;have hE:=Zm5 hqi.out hsi.out
 rcases hl with ⟨hl,-⟩ | ⟨-,rfl⟩
 case inl=>rw [hE] at hl;exact absurd hl (by decide)
 rw [hE];clear hE;clear hXi;clear hCi hfi hqi hsi hc6i;go_wp2_with fail;refine (Zpt w92).mono ?_;rintro e w94 ⟨rfl,hb3⟩;replace q85:=Za (Zc hb3 q85.out);have hB95:=Za (hB93.out.trans (hb3.mono hB93.out.size));clear hB93;clear hb3;go_wp2_with fail;have cc96 : w94.cell? ⟨g81,0,none⟩ = some (.int .i64 0):=q85.out.cell 0;have cc97 : w94.cell? ⟨g81,1,none⟩ = some (.int .i64 1099511627776):=q85.out.cell 1;have cc98 : w94.cell? ⟨g81,2,none⟩ = some (.int .i64 0):=q85.out.cell 2;have cc99 : w94.cell? ⟨g81,3,none⟩ = some (.int .i64 0):=q85.out.cell 3;have cc100 : w94.cell? ⟨g81,4,none⟩ = some (.int .i64 0):=q85.out.cell 4;have cc101 : w94.cell? ⟨g81,5,none⟩ = some (.int .i64 0):=q85.out.cell 5;have cc102 : w94.cell? ⟨g81,6,none⟩ = some (.int .i64 0):=q85.out.cell 6
 have hEq : ∀ w,(Op.equalIn 10000 46 (.agg #[.int .i64 0,.int .i64 1099511627776,.int .i64 0,.int .i64 0,.int .i64 0,.int .i64 0,.int .i64 0]) (.agg #[.int .i64 0,.int .i64 1099511627776,.int .i64 0,.int .i64 0,.int .i64 0,.int .i64 0,.int .i64 0])).run Tryz.prog w = .ok true w:=fun w=>by
  rw [Zht];simp
 have hr103 : Below w94.heap.size w94 w94.drew:=Zi (Below.refl _ _) 1;replace q85:=Za (Zc hr103 q85.out);have hB104:=Za (hB95.out.trans (hr103.mono hB95.out.size));clear hB95;replace cc96:=Zb hr103 cc96;replace cc97:=Zb hr103 cc97;replace cc98:=Zb hr103 cc98;replace cc99:=Zb hr103 cc99;replace cc100:=Zb hr103 cc100;replace cc101:=Zb hr103 cc101;replace cc102:=Zb hr103 cc102;clear hr103;refine Zaa [] (fun wx=>(wx.cell? ⟨g81,0,none⟩ = some (.int .i64 0)) /\ (wx.cell? ⟨g81,1,none⟩ = some (.int .i64 1099511627776)) /\ (wx.cell? ⟨g81,2,none⟩ = some (.int .i64 0)) /\ (wx.cell? ⟨g81,3,none⟩ = some (.int .i64 0)) /\ (wx.cell? ⟨g81,4,none⟩ = some (.int .i64 0)) /\ (wx.cell? ⟨g81,5,none⟩ = some (.int .i64 0)) /\ (wx.cell? ⟨g81,6,none⟩ = some (.int .i64 0))) hmx ⟨cc96,cc97,cc98,cc99,cc100,cc101,cc102⟩ (fun _=>?_);refine Zd (i:=0) (v:=?vt1) rfl (by kernel_rfl) (by kernel_rfl) (by kernel_rfl) (by kernel_rfl) (by kernel_rfl) (Or.inl ⟨by kernel_rfl,?hyt1⟩) ⟨cc96,cc97,cc98,cc99,cc100,cc101,cc102⟩ ?rt1
 case hyt1=>(intro W2 hSw;(try dsimp only at hSw);go_simp;try with_reducible rfl)
 try simp only [Act.put,putL_a,putL_z,putL_s,putG_a,putG_s,putG_z]
 refine Zd (i:=1) (v:=?vt2) rfl (by kernel_rfl) (by kernel_rfl) (by kernel_rfl) (by kernel_rfl) (by kernel_rfl) (Or.inl ⟨by kernel_rfl,?hyt2⟩) ⟨cc96,cc97,cc98,cc99,cc100,cc101,cc102⟩ ?rt2
 case hyt2=>(intro W2 hSw;(try dsimp only at hSw);go_simp;try with_reducible rfl)
 try simp only [Act.put,putL_a,putL_z,putL_s,putG_a,putG_s,putG_z]
 refine Zd (i:=2) (v:=?vt3) rfl (by kernel_rfl) (by kernel_rfl) (by kernel_rfl) (by kernel_rfl) (by kernel_rfl) (Or.inl ⟨by kernel_rfl,?hyt3⟩) ⟨cc96,cc97,cc98,cc99,cc100,cc101,cc102⟩ ?rt3
 case hyt3=>(intro W2 hSw;(try dsimp only at hSw);go_simp;try with_reducible rfl)
 try simp only [Act.put,putL_a,putL_z,putL_s,putG_a,putG_s,putG_z]
 refine Zd (i:=3) (v:=?vt4) rfl (by kernel_rfl) (by kernel_rfl) (by kernel_rfl) (by kernel_rfl) (by kernel_rfl) (Or.inl ⟨by kernel_rfl,?hyt4⟩) ⟨cc96,cc97,cc98,cc99,cc100,cc101,cc102⟩ ?rt4
 case hyt4=>(intro W2 hSw;(try dsimp only at hSw);go_simp;try with_reducible rfl)
 try simp only [Act.put,putL_a,putL_z,putL_s,putG_a,putG_s,putG_z]
 refine Zd (i:=4) (v:=?vt5) rfl (by kernel_rfl) (by kernel_rfl) (by kernel_rfl) (by kernel_rfl) (by kernel_rfl) (Or.inl ⟨by kernel_rfl,?hyt5⟩) ⟨cc96,cc97,cc98,cc99,cc100,cc101,cc102⟩ ?rt5
 case hyt5=>(intro W2 hSw;(try dsimp only at hSw);go_simp;try with_reducible rfl)
 try simp only [Act.put,putL_a,putL_z,putL_s,putG_a,putG_s,putG_z]
 refine Zd (i:=5) (v:=?vt6) rfl (by kernel_rfl) (by kernel_rfl) (by kernel_rfl) (by kernel_rfl) (by kernel_rfl) (Or.inl ⟨by kernel_rfl,?hyt6⟩) ⟨cc96,cc97,cc98,cc99,cc100,cc101,cc102⟩ ?rt6
 case hyt6=>(intro W2 hSw;(try dsimp only at hSw);go_simp;try with_reducible rfl)
 try simp only [Act.put,putL_a,putL_z,putL_s,putG_a,putG_s,putG_z]
 refine Zd (i:=6) (v:=?vt7) rfl (by kernel_rfl) (by kernel_rfl) (by kernel_rfl) (by kernel_rfl) (by kernel_rfl) (Or.inl ⟨by kernel_rfl,?hyt7⟩) ⟨cc96,cc97,cc98,cc99,cc100,cc101,cc102⟩ ?rt7
 case hyt7=>(intro W2 hSw;(try dsimp only at hSw);go_simp;try with_reducible rfl)
 try simp only [Act.put,putL_a,putL_z,putL_s,putG_a,putG_s,putG_z]
 refine Zd (i:=7) (v:=?vt8) rfl (by kernel_rfl) (by kernel_rfl) (by kernel_rfl) (by kernel_rfl) (by kernel_rfl) (Or.inl ⟨by kernel_rfl,?hyt8⟩) ⟨cc96,cc97,cc98,cc99,cc100,cc101,cc102⟩ ?rt8
 case hyt8=>(intro W2 hSw;(try dsimp only at hSw);go_simp;try with_reducible rfl)
 try simp only [Act.put,putL_a,putL_z,putL_s,putG_a,putG_s,putG_z]
 refine Zd (i:=8) (v:=?vt9) rfl (by kernel_rfl) (by kernel_rfl) (by kernel_rfl) (by kernel_rfl) (by kernel_rfl) (Or.inl ⟨by kernel_rfl,?hyt9⟩) ⟨cc96,cc97,cc98,cc99,cc100,cc101,cc102⟩ ?rt9
 case hyt9=>(intro W2 hSw;(try dsimp only at hSw);go_simp;try with_reducible rfl)
 try simp only [Act.put,putL_a,putL_z,putL_s,putG_a,putG_s,putG_z]
 refine Zd (i:=9) (v:=?vt10) rfl (by kernel_rfl) (by kernel_rfl) (by kernel_rfl) (by kernel_rfl) (by kernel_rfl) (Or.inl ⟨by kernel_rfl,?hyt10⟩) ⟨cc96,cc97,cc98,cc99,cc100,cc101,cc102⟩ ?rt10
 case hyt10=>(intro W2 hSw;(try dsimp only at hSw);go_simp;try with_reducible rfl)
 try simp only [Act.put,putL_a,putL_z,putL_s,putG_a,putG_s,putG_z]
 refine Zd (i:=10) (v:=?vt11) rfl (by kernel_rfl) (by kernel_rfl) (by kernel_rfl) (by kernel_rfl) (by kernel_rfl) (Or.inl ⟨by kernel_rfl,?hyt11⟩) ⟨cc96,cc97,cc98,cc99,cc100,cc101,cc102⟩ ?rt11
 case hyt11=>(intro W2 hSw;(try dsimp only at hSw);go_simp;try with_reducible rfl)
 try simp only [Act.put,putL_a,putL_z,putL_s,putG_a,putG_s,putG_z]
 refine Zd (i:=11) (v:=?vt12) rfl (by kernel_rfl) (by kernel_rfl) (by kernel_rfl) (by kernel_rfl) (by kernel_rfl) (Or.inl ⟨by kernel_rfl,?hyt12⟩) ⟨cc96,cc97,cc98,cc99,cc100,cc101,cc102⟩ ?rt12
 case hyt12=>(intro W2 hSw;(try dsimp only at hSw);go_simp;try with_reducible rfl)
 try simp only [Act.put,putL_a,putL_z,putL_s,putG_a,putG_s,putG_z]
 refine Zd (i:=12) (v:=?vt13) rfl (by kernel_rfl) (by kernel_rfl) (by kernel_rfl) (by kernel_rfl) (by kernel_rfl) (Or.inl ⟨by kernel_rfl,?hyt13⟩) ⟨cc96,cc97,cc98,cc99,cc100,cc101,cc102⟩ ?rt13
 case hyt13=>(intro W2 hSw;(try dsimp only at hSw);go_simp;try with_reducible rfl)
 try simp only [Act.put,putL_a,putL_z,putL_s,putG_a,putG_s,putG_z]
 refine Zd (i:=13) (v:=?vt14) rfl (by kernel_rfl) (by kernel_rfl) (by kernel_rfl) (by kernel_rfl) (by kernel_rfl) (Or.inl ⟨by kernel_rfl,?hyt14⟩) ⟨cc96,cc97,cc98,cc99,cc100,cc101,cc102⟩ ?rt14
 case hyt14=>(intro W2 hSw;(try dsimp only at hSw);go_simp;try with_reducible rfl)
 try simp only [Act.put,putL_a,putL_z,putL_s,putG_a,putG_s,putG_z]
 refine Zd (i:=14) (v:=?vt15) rfl (by kernel_rfl) (by kernel_rfl) (by kernel_rfl) (by kernel_rfl) (by kernel_rfl) (Or.inl ⟨by kernel_rfl,?hyt15⟩) ⟨cc96,cc97,cc98,cc99,cc100,cc101,cc102⟩ ?rt15
 case hyt15=>(intro W2 hSw;(try dsimp only at hSw);go_simp;try with_reducible rfl)
 try simp only [Act.put,putL_a,putL_z,putL_s,putG_a,putG_s,putG_z]
 refine Zd (i:=15) (v:=?vt16) rfl (by kernel_rfl) (by kernel_rfl) (by kernel_rfl) (by kernel_rfl) (by kernel_rfl) (Or.inl ⟨by kernel_rfl,?hyt16⟩) ⟨cc96,cc97,cc98,cc99,cc100,cc101,cc102⟩ ?rt16
 case hyt16=>(intro W2 hSw;(try dsimp only at hSw);go_simp;try with_reducible rfl)
 try simp only [Act.put,putL_a,putL_z,putL_s,putG_a,putG_s,putG_z]
 refine Zd (i:=16) (v:=?vt17) rfl (by kernel_rfl) (by kernel_rfl) (by kernel_rfl) (by kernel_rfl) (by kernel_rfl) (Or.inl ⟨by kernel_rfl,?hyt17⟩) ⟨cc96,cc97,cc98,cc99,cc100,cc101,cc102⟩ ?rt17
 case hyt17=>(intro W2 hSw;(try dsimp only at hSw);go_simp;try with_reducible rfl)
 try simp only [Act.put,putL_a,putL_z,putL_s,putG_a,putG_s,putG_z]
 refine Zd (i:=17) (v:=?vt18) rfl (by kernel_rfl) (by kernel_rfl) (by kernel_rfl) (by kernel_rfl) (by kernel_rfl) (Or.inl ⟨by kernel_rfl,?hyt18⟩) ⟨cc96,cc97,cc98,cc99,cc100,cc101,cc102⟩ ?rt18
 case hyt18=>(intro W2 hSw;(try dsimp only at hSw);go_simp;try with_reducible rfl)
 try simp only [Act.put,putL_a,putL_z,putL_s,putG_a,putG_s,putG_z]
 refine Zd (i:=18) (v:=?vt19) rfl (by kernel_rfl) (by kernel_rfl) (by kernel_rfl) (by kernel_rfl) (by kernel_rfl) (Or.inl ⟨by kernel_rfl,?hyt19⟩) ⟨cc96,cc97,cc98,cc99,cc100,cc101,cc102⟩ ?rt19
 case hyt19=>(intro W2 hSw;(try dsimp only at hSw);go_simp;try with_reducible rfl)
 try simp only [Act.put,putL_a,putL_z,putL_s,putG_a,putG_s,putG_z]
 refine Zd (i:=19) (v:=?vt20) rfl (by kernel_rfl) (by kernel_rfl) (by kernel_rfl) (by kernel_rfl) (by kernel_rfl) (Or.inl ⟨by kernel_rfl,?hyt20⟩) ⟨cc96,cc97,cc98,cc99,cc100,cc101,cc102⟩ ?rt20
 case hyt20=>(intro W2 hSw;(try dsimp only at hSw);go_simp;try with_reducible rfl)
 try simp only [Act.put,putL_a,putL_z,putL_s,putG_a,putG_s,putG_z]
 refine Zd (i:=20) (v:=?vt21) rfl (by kernel_rfl) (by kernel_rfl) (by kernel_rfl) (by kernel_rfl) (by kernel_rfl) (Or.inl ⟨by kernel_rfl,?hyt21⟩) ⟨cc96,cc97,cc98,cc99,cc100,cc101,cc102⟩ ?rt21
 case hyt21=>(intro W2 hSw;(try dsimp only at hSw);go_simp;try with_reducible rfl)
 try simp only [Act.put,putL_a,putL_z,putL_s,putG_a,putG_s,putG_z]
 refine Zd (i:=21) (v:=?vt22) rfl (by kernel_rfl) (by kernel_rfl) (by kernel_rfl) (by kernel_rfl) (by kernel_rfl) (Or.inl ⟨by kernel_rfl,?hyt22⟩) ⟨cc96,cc97,cc98,cc99,cc100,cc101,cc102⟩ ?rt22
 case hyt22=>(intro W2 hSw;(try dsimp only at hSw);go_simp;try with_reducible rfl)
 try simp only [Act.put,putL_a,putL_z,putL_s,putG_a,putG_s,putG_z]
 refine Zd (i:=22) (v:=?vt23) rfl (by kernel_rfl) (by kernel_rfl) (by kernel_rfl) (by kernel_rfl) (by kernel_rfl) (Or.inl ⟨by kernel_rfl,?hyt23⟩) ⟨cc96,cc97,cc98,cc99,cc100,cc101,cc102⟩ ?rt23
 case hyt23=>(intro W2 hSw;(try dsimp only at hSw);go_simp;try with_reducible rfl)
 try simp only [Act.put,putL_a,putL_z,putL_s,putG_a,putG_s,putG_z]
 refine Zd (i:=23) (v:=?vt24) rfl (by kernel_rfl) (by kernel_rfl) (by kernel_rfl) (by kernel_rfl) (by kernel_rfl) (Or.inl ⟨by kernel_rfl,?hyt24⟩) ⟨cc96,cc97,cc98,cc99,cc100,cc101,cc102⟩ ?rt24
 case hyt24=>(intro W2 hSw;(try dsimp only at hSw);go_simp;try with_reducible rfl)
 try simp only [Act.put,putL_a,putL_z,putL_s,putG_a,putG_s,putG_z]
 refine Ze (i:=24) rfl (by kernel_rfl) (fun K hK=>?_);(try rw [if_pos (by kernel_rfl)]);go_simp;refine (Zb9 w94.drew).mono ?_;rintro e w105 ⟨rfl,hbr⟩;replace q85:=Za (Zc hbr q85.out);have hB106:=Za (hB104.out.trans (hbr.mono hB104.out.size));clear hB104;replace cc96:=Zb hbr cc96;replace cc97:=Zb hbr cc97;replace cc98:=Zb hbr cc98;replace cc99:=Zb hbr cc99;replace cc100:=Zb hbr cc100;replace cc101:=Zb hbr cc101;replace cc102:=Zb hbr cc102;clear hbr;refine hK.out _ _ (fun _=>⟨cc96,cc97,cc98,cc99,cc100,cc101,cc102⟩) ?_;clear hK K
 try simp only [Act.put,putL_a,putL_z,putL_s,putG_a,putG_s,putG_z]
 refine Zd (i:=25) (v:=?vt25) rfl (by kernel_rfl) (by kernel_rfl) (by kernel_rfl) (by kernel_rfl) (by kernel_rfl) (Or.inl ⟨by kernel_rfl,?hyt25⟩) ⟨cc96,cc97,cc98,cc99,cc100,cc101,cc102⟩ ?rt25
 case hyt25=>(intro W2 hSw;(try dsimp only at hSw);go_simp;try with_reducible rfl)
 try simp only [Act.put,putL_a,putL_z,putL_s,putG_a,putG_s,putG_z]
 refine Zd (i:=26) (v:=?vt26) rfl (by kernel_rfl) (by kernel_rfl) (by kernel_rfl) (by kernel_rfl) (by kernel_rfl) (Or.inl ⟨by kernel_rfl,?hyt26⟩) ⟨cc96,cc97,cc98,cc99,cc100,cc101,cc102⟩ ?rt26
 case hyt26=>(intro W2 hSw;(try dsimp only at hSw);go_simp;try with_reducible rfl)
 try simp only [Act.put,putL_a,putL_z,putL_s,putG_a,putG_s,putG_z]
 refine Zd (i:=27) (v:=?vt27) rfl (by kernel_rfl) (by kernel_rfl) (by kernel_rfl) (by kernel_rfl) (by kernel_rfl) (Or.inl ⟨by kernel_rfl,?hyt27⟩) ⟨cc96,cc97,cc98,cc99,cc100,cc101,cc102⟩ ?rt27
 case hyt27=>(intro W2 hSw;(try dsimp only at hSw);go_simp;try with_reducible rfl)
 try simp only [Act.put,putL_a,putL_z,putL_s,putG_a,putG_s,putG_z]
 refine Zd (i:=28) (v:=?vt28) rfl (by kernel_rfl) (by kernel_rfl) (by kernel_rfl) (by kernel_rfl) (by kernel_rfl) (Or.inl ⟨by kernel_rfl,?hyt28⟩) ⟨cc96,cc97,cc98,cc99,cc100,cc101,cc102⟩ ?rt28
 case hyt28=>(intro W2 hSw;(try dsimp only at hSw);go_simp;try with_reducible rfl)
 try simp only [Act.put,putL_a,putL_z,putL_s,putG_a,putG_s,putG_z]
 refine Zd (i:=29) (v:=?vt29) rfl (by kernel_rfl) (by kernel_rfl) (by kernel_rfl) (by kernel_rfl) (by kernel_rfl) (Or.inl ⟨by kernel_rfl,?hyt29⟩) ⟨cc96,cc97,cc98,cc99,cc100,cc101,cc102⟩ ?rt29
 case hyt29=>(intro W2 hSw;(try dsimp only at hSw);go_simp;try with_reducible rfl)
 try simp only [Act.put,putL_a,putL_z,putL_s,putG_a,putG_s,putG_z]
 refine Zd (i:=30) (v:=?vt30) rfl (by kernel_rfl) (by kernel_rfl) (by kernel_rfl) (by kernel_rfl) (by kernel_rfl) (Or.inl ⟨by kernel_rfl,?hyt30⟩) ⟨cc96,cc97,cc98,cc99,cc100,cc101,cc102⟩ ?rt30
 case hyt30=>(intro W2 hSw;(try dsimp only at hSw);go_simp;try with_reducible rfl)
 try simp only [Act.put,putL_a,putL_z,putL_s,putG_a,putG_s,putG_z]
 refine Zd (i:=31) (v:=?vt31) rfl (by kernel_rfl) (by kernel_rfl) (by kernel_rfl) (by kernel_rfl) (by kernel_rfl) (Or.inl ⟨by kernel_rfl,?hyt31⟩) ⟨cc96,cc97,cc98,cc99,cc100,cc101,cc102⟩ ?rt31
 case hyt31=>(intro W2 hSw;(try dsimp only at hSw);go_simp;try with_reducible rfl)
 try simp only [Act.put,putL_a,putL_z,putL_s,putG_a,putG_s,putG_z]
 refine Zl (by kernel_rfl) ?_ _;refine OnlyNormal.normal ?_;clear cc96 cc97 cc98 cc99 cc100 cc101 cc102;go_wp2_with fail;go_ret;exact ⟨rfl,hB106.out⟩
open Go.ChangeShapes Go.WideShapes Go.Deep Go.RowKit
section
variable {H : Type} {enc : TypeId × Value -> H} {w : World} {base : Nat} {spare : Nat -> Bool} {held : Bool}
end
section
variable {H : Type} {enc : TypeId × Value -> H} {w : World} {base : Nat} {spare : Nat -> Bool} {held : Bool}
end
section
variable {H : Type} {enc : TypeId × Value -> H} {w : World} {base : Nat} {spare : Nat -> Bool} {held : Bool}
end
end Go.Proofs.YtpehacgjclkhmaaGreat
