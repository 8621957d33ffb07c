/- The law's alive: its numbers (plain). A new block. Package -/
import Derived.Test.YtpehacgjclkhmaaGreatZw45
set_option maxRecDepth 100000
set_option maxHeartbeats 8000000
set_option linter.unusedSimpArgs false
set_option linter.unusedVariables false
namespace Go.Proofs.YtpehacgjclkhmaaGreat
open Go.RowKit
def covS (l : List (Nat × List (Nat × Bool × Rat))) : Int:=if (decide (6 < l.length) || l.any fun x=>decide (6 < x.1)) = true then 4 else if l.length = 0 then 8 else if (l.all fun x=>decide (x.1 = l.length) && x.2.all fun y=>decide (y.1 <= 64) && y.2.1) = true then (if (Ze4 (l.map fun x=>x.2.map fun y=>y.2.2) && Zmk (Zp (l.map fun x=>x.2.map fun y=>y.2.2)) l.length) = true then 0 else 8) else 8
theorem covE_S (rs : List RX) : Za6 rs = covS (Zdy rs):=by
 have hl : (Zdy rs).length = rs.length:=by simp [Zdy]
 unfold Za6 covS;rw [Zqz,Zrx,sig_qM,hl]
theorem sig_few {rs : List RX} {Q : List (List Rat)} {k : Nat} (h : Zdy rs = sigQ Q) (hQ : ∀ r ∈ Q,∀ q ∈ r,Zke q <= k) : fewM k rs:=fun r hr e he=>by
 have h1 : Zk0 r ∈ Zdy rs:=List.mem_map.2 ⟨r,hr,rfl⟩;rw [h] at h1;obtain ⟨row,h2,h3⟩:=List.mem_map.1 h1
 have h4 : r.es.map Zme = row.map fun q=>(Zke q,true,q):=(congrArg Prod.snd h3).symm
 have h5 : Zme e ∈ r.es.map Zme:=List.mem_map.2 ⟨e,he,rfl⟩;rw [h4] at h5;obtain ⟨q,h6,h7⟩:=List.mem_map.1 h5;have h8 : Zke q = e.few:=congrArg Prod.fst h7;exact .inl (by rw [<- h8];exact hQ row h2 q h6)
theorem Zqr {rs : List RX} (h : Zdy rs = sigQ unitQ) : Za6 rs = 0:=by
 rw [covE_S,h];decide +kernel
theorem Zf5 {rs : List RX} (h : Zdy rs = sigQ unitQ) : fewM 1 rs:=sig_few h (by decide +kernel)
theorem fewM.mono {rs : List RX} {k m : Nat} (h : fewM k rs) (hk : k <= m) : fewM m rs:=fun r hr e he=>by
 rcases h r hr e he with h | h
 ·exact .inl (by omega)
 ·exact .inr h
theorem Zgn {rs : List RX} (h : Zdy rs = sigQ unitQ) {k : Int} (hk : 0 <= k /\ k <= 5) : Zb6 rs k = 0:=by
 have hl : rs.length = 6:=by
  have : (Zdy rs).length = rs.length:=by simp [Zdy]
  rw [<- this,h];rfl
 unfold Zb6;rw [if_pos (Zqr h),if_pos hl,if_pos hk]
def Zck : List Rat:=[1,1 / 4,0,0,0,0]
theorem Zqu : Zcm (Zp unitQ) 0 = Zck:=by decide +kernel
def Zb0 : St:=⟨0,1099511627776,0,0,0,0,0⟩
def Zj7 : St:=⟨0,1099511627772,-1,0,0,0,0⟩
def Zj2 : St:=⟨0,1099511627780,1,0,0,0,0⟩
def nearB (dir : List Rat) (d : Int) : Bool:=(List.range 6).all fun i=>decide (-1152921504606846976 <= Zbk dir d i) && decide (Zbk dir d i <= 1152921504606846976)
theorem Zrb {s : St} {dir : List Rat} {d : Int} (h : nearB dir d = true) (h2 : stE (mvS s (Zbk dir d) 6) = 0) : movE s dir d = 0 /\ movV s dir d = mvS s (Zbk dir d) 6:=
 Zk4 (fun i hi=>by
  have h3:=List.all_eq_true.1 h i (List.mem_range.2 hi);simp only [Bool.and_eq_true,decide_eq_true_eq] at h3
  exact h3) h2
theorem Zc5 : ∀ j,j < 3 -> nearB Zck (Zam 1 4 j) = true /\ stE (mvS Zb0 (Zbk Zck (Zam 1 4 j)) 6) = 0:=by
 intro j hj
 match j,hj with
 | 0,_=>exact ⟨by decide +kernel,by decide +kernel⟩
 | 1,_=>exact ⟨by decide +kernel,by decide +kernel⟩
 | 2,_=>exact ⟨by decide +kernel,by decide +kernel⟩
theorem Znw : Ze8 Zck Zb0 4 1:=fun j hj=>(Zrb (Zc5 j (by omega)).1 (Zc5 j (by omega)).2).1
theorem Zod : lineS Zck Zb0 4 1 = [Zj7,Zb0,Zj2]:=by
 have e : ∀ j,j < 3 -> movV Zb0 Zck (Zam 1 4 j) = mvS Zb0 (Zbk Zck (Zam 1 4 j)) 6:=fun j hj=>(Zrb (Zc5 j hj).1 (Zc5 j hj).2).2
 show [movV Zb0 Zck (Zam 1 4 0),movV Zb0 Zck (Zam 1 4 1),movV Zb0 Zck (Zam 1 4 2)] = _;rw [e 0 (by decide),e 1 (by decide),e 2 (by decide)]
 have n : ∀ (a b : St),(decide (a.t = b.t) && decide (a.p0 = b.p0) && decide (a.p1 = b.p1) && decide (a.p2 = b.p2) && decide (a.v0 = b.v0) && decide (a.v1 = b.v1) && decide (a.v2 = b.v2)) = true -> a = b:=fun a b h=>by
  simp only [Bool.and_eq_true,decide_eq_true_eq] at h;obtain ⟨⟨⟨⟨⟨⟨h0,h1⟩,h2⟩,h3⟩,h4⟩,h5⟩,h6⟩:=h;exact St.ext' h0 h1 h2 h3 h4 h5 h6
 rw [n (mvS Zb0 (Zbk Zck (Zam 1 4 0)) 6) Zj7 (by decide +kernel),n (mvS Zb0 (Zbk Zck (Zam 1 4 1)) 6) Zb0 (by decide +kernel),n (mvS Zb0 (Zbk Zck (Zam 1 4 2)) 6) Zj2 (by decide +kernel)]
theorem Zj1 {rs : List RX} (hq : qM rs = unitQ) (h : Zdy rs = sigQ unitQ) : lineE rs Zb0 0 4 1 = 0 /\ lineS (Zd0 rs 0) Zb0 4 (1 : Int).toNat = [Zj7,Zb0,Zj2] /\ Zcm (Zp (qM rs)) (0 : Int).toNat = Zck:=by
 have hd : Zcm (Zp (qM rs)) (0 : Int).toNat = Zck:=by rw [hq];exact Zqu
 have hl : Zd0 rs 0 = Zck:=hd;refine ⟨?_,by rw [hl];exact Zod,hd⟩;rw [Zip (by decide +kernel) (Zgn h (by decide)) (by decide),hl];exact Zls Znw
theorem Zpd : Zca 1 = [1 / 4,1 / 2,1 / 4]:=by decide +kernel
theorem FL.made {w : World} {g : Nat} {t : TypeId} {es : List FE} (h : Blk w g t (Z3 es)) (he : ∀ e ∈ es,e.in_ w) (hn : es.length <= 1000) : FL w (some ⟨g,0,none⟩) es.length es.length (es.map FE.q):=by
 refine ⟨es,rfl,Nat.le_refl _,by unfold maxLen;omega,he,rfl,fun _=>⟨g,0,rfl,fun k e hk=>?_⟩⟩;obtain ⟨h0,h1,h2,h3⟩:=Zg4 hk;simp only [Nat.zero_add];exact ⟨(h.cell _).trans h0,(h.cell _).trans h1,(h.cell _).trans h2,(h.cell _).trans h3⟩
theorem SL.made {w : World} {g : Nat} {t : TypeId} {ss : List St} (h : Blk w g t (ss.flatMap fun s=>s.cells.toList).toArray) (hn : ss.length <= 1000) : SL w (some ⟨g,0,none⟩) ss.length ss.length ss:=by
 refine ⟨rfl,Nat.le_refl _,by unfold maxLen;omega,fun k s hs=>⟨g,0,rfl,?_⟩⟩
 have hc : ∀ i,i < 7 -> ∀ x,s.cells.toList[i]? = some x -> w.cell? ⟨g,k * 7 + i,none⟩ = some x:=fun i hi x hx=>by
  have e:=Zhj (f:=fun s : St=>s.cells.toList) (m:=7) (fun _=>rfl) ss k i s hs hi;rw [hx] at e;rw [h.cell,List.getElem?_toArray];exact e
 rw [Nat.zero_add];exact ⟨hc 0 (by omega) _ rfl,hc 1 (by omega) _ rfl,hc 2 (by omega) _ rfl,hc 3 (by omega) _ rfl,hc 4 (by omega) _ rfl,hc 5 (by omega) _ rfl,hc 6 (by omega) _ rfl⟩
theorem Zdq {w : World} (t : TypeId) (cs : Array Value) : ∃ W,w.alloc (.cells cs t) = W /\ Blk W w.heap.size t cs /\ Below w.heap.size w W:=
 ⟨_,rfl,Blk.new _ _ _,(Below.refl _ _).alloc (Nat.le_refl _) _⟩
attribute [local go_sem] Zg
theorem one_four : Rat.divInt 1 4 = 1 / 4 /\ Rat.divInt 1 2 = 1 / 2 /\ Rat.divInt 1 1 = 1 /\ Rat.divInt 0 1 = 0:=⟨by decide +kernel,by decide +kernel,by decide +kernel,by decide +kernel⟩
theorem Zlc (w : World) : Calls Tryz.prog 18 #[] w fun e w'=>e = .returned (.bool true) /\ Below w.heap.size w w':=by
 have hmx : Tryz.prog.follows .mixedOrders = true:=by kernel_rfl
 have hBB : Hid (Below w.heap.size w w):=Zb (Below.refl _ _);go_enter Tryz.func18,Tryz.ntmps18;go_wp2_with fail;refine (Zf8 1 w (by decide) (by decide)).mono ?_;rintro e w1 ⟨hb1,hwe⟩;have hB2:=Zb (hBB.out.trans (hb1.mono hBB.out.size));clear hBB;clear hb1
 rcases hwe with ⟨-,-,A1,k1,rfl,hF1⟩ | ⟨h,-⟩
 case inr=>exact absurd (by decide) h
 rw [show (1 : Int).toNat = 1 from rfl,Zpd] at hF1;replace hF1 : FL w1 A1 3 k1 [1 / 4,1 / 2,1 / 4]:=hF1;replace hF1:=Zb hF1;rw [show 2 * (1 : Int).toNat + 1 = 3 from rfl];go_wp2_with fail;refine (Zor w1).mono ?_;rintro e w3 ⟨va,rfl,hba,La,hOa⟩;replace hF1:=Zb (hF1.out.below hba);have hB4:=Zb (hB2.out.trans (hba.mono hB2.out.size));clear hB2;clear hba;obtain ⟨Aa,ka,rfl,hMa⟩:=hOa.mflA;rw [Zgm] at hMa ⊢;obtain ⟨rsa,hXa,hqa,hsa⟩:=hMa.mxs;have hcapa:=hXa.2.2.1;unfold maxLen at hcapa;have hc6a:=hXa.2.1;have hCa:=Zb (FacC.of hXa (Zf5 hsa) (fun _=>by decide));have hfa:=Zb ((Zf5 hsa).mono (show 1 <= 3 by decide));have hEa:=Zb (Zj1 hqa hsa);have hDa : Hid (Zb6 rsa 0 = 0):=Zb (Zgn hsa (by decide));clear hOa hMa La hqa hsa;replace hXa:=Zb hXa;go_wp2_with fail;refine (Zec Aa 6 ka rsa 0 w3 hXa.out hCa.out (by decide) (by decide)).mono ?_;rintro e w5 ⟨hb2,hd2⟩;replace hF1:=Zb (hF1.out.below hb2);replace hXa:=Zb (hXa.out.below hb2);have hB6:=Zb (hB4.out.trans (hb2.mono hB4.out.size));clear hB4;clear hb2
 rcases hd2 with ⟨-,A2,k2,rfl,hF2⟩ | ⟨h,-⟩
 case inr=>exact absurd hDa.out h
 rw [hEa.out.2.2] at hF2;have hcap2:=hF2.cap;unfold maxLen at hcap2;clear hCa hfa hEa hDa hcapa hc6a;clear hXa;replace hF2:=Zb hF2;go_wp2_with fail;refine (Zhe w5).mono ?_;rintro e w7 ⟨rfl,hbr⟩;replace hF1:=Zb (hF1.out.below hbr);replace hF2:=Zb (hF2.out.below hbr);have hB8:=Zb (hB6.out.trans (hbr.mono hB6.out.size));clear hB6;clear hbr;go_wp2_with fail;refine (Zor w7).mono ?_;rintro e w9 ⟨vb,rfl,hbb,Lb,hOb⟩;replace hF1:=Zb (hF1.out.below hbb);replace hF2:=Zb (hF2.out.below hbb);have hB10:=Zb (hB8.out.trans (hbb.mono hB8.out.size));clear hB8;clear hbb;obtain ⟨Ab,kb,rfl,hMb⟩:=hOb.mflA;rw [Zgm] at hMb ⊢;obtain ⟨rsb,hXb,hqb,hsb⟩:=hMb.mxs;have hcapb:=hXb.2.2.1;unfold maxLen at hcapb;have hc6b:=hXb.2.1;have hCb:=Zb (FacC.of hXb (Zf5 hsb) (fun _=>by decide));have hfb:=Zb ((Zf5 hsb).mono (show 1 <= 3 by decide));have hEb:=Zb (Zj1 hqb hsb);have hDb : Hid (Zb6 rsb 0 = 0):=Zb (Zgn hsb (by decide));clear hOb hMb Lb hqb hsb;replace hXb:=Zb hXb;go_wp2_with fail;refine (Zld Zb0 Ab 6 kb rsb 0 4 1 w9 hXb.out hCb.out hfb.out (by decide) (by decide) (by decide) (by decide) (by decide) (by decide)).mono ?_;rintro e w11 ⟨hb3,hl3⟩;replace hF1:=Zb (hF1.out.below hb3);replace hF2:=Zb (hF2.out.below hb3);replace hXb:=Zb (hXb.out.below hb3);have hB12:=Zb (hB10.out.trans (hb3.mono hB10.out.size));clear hB10;clear hb3
 rcases hl3 with ⟨-,A3,k3,rfl,hL3⟩ | ⟨h,-⟩
 case inr=>exact absurd hEb.out.1 h
 rw [hEb.out.2.1] at hL3;replace hL3 : SL w11 A3 3 k3 [Zj7,Zb0,Zj2]:=hL3;rw [show 2 * (1 : Int).toNat + 1 = 3 from rfl];have hcap3:=hL3.2.2.1;unfold maxLen at hcap3;clear hCb hfb hEb hDb hcapb hc6b;clear hXb;replace hL3:=Zb hL3;go_wp2_with fail;refine (Zbj 1 1 w11 (by decide) (by decide) (by decide) (by decide)).mono ?_;rintro e w13 ⟨hbp1,p1n,p1A,p1k,p1c,p1m,p1B,p1j,p1d,rfl,p1f⟩;replace hF1:=Zb (hF1.out.below hbp1);replace hF2:=Zb (hF2.out.below hbp1);replace hL3:=Zb (hL3.out.below hbp1);have hB14:=Zb (hB12.out.trans (hbp1.mono hB12.out.size));clear hB12;clear hbp1;rw [one_four.2.2.1] at p1f;replace p1f:=Zb p1f;go_wp2_with fail;refine (Zbj 1 4 w13 (by decide) (by decide) (by decide) (by decide)).mono ?_;rintro e w15 ⟨hbp2,p2n,p2A,p2k,p2c,p2m,p2B,p2j,p2d,rfl,p2f⟩;replace hF1:=Zb (hF1.out.below hbp2);replace hF2:=Zb (hF2.out.below hbp2);replace hL3:=Zb (hL3.out.below hbp2);replace p1f:=Zb (p1f.out.below hbp2);have hB16:=Zb (hB14.out.trans (hbp2.mono hB14.out.size));clear hB14;clear hbp2;rw [one_four.1] at p2f;replace p2f:=Zb p2f;go_wp2_with fail;refine (Zbj 0 1 w15 (by decide) (by decide) (by decide) (by decide)).mono ?_;rintro e w17 ⟨hbp3,p3n,p3A,p3k,p3c,p3m,p3B,p3j,p3d,rfl,p3f⟩;replace hF1:=Zb (hF1.out.below hbp3);replace hF2:=Zb (hF2.out.below hbp3);replace hL3:=Zb (hL3.out.below hbp3);replace p1f:=Zb (p1f.out.below hbp3);replace p2f:=Zb (p2f.out.below hbp3);have hB18:=Zb (hB16.out.trans (hbp3.mono hB16.out.size));clear hB16;clear hbp3;rw [one_four.2.2.2] at p3f
 replace p3f:=Zb p3f;go_wp2_with fail;refine (Zbj 0 1 w17 (by decide) (by decide) (by decide) (by decide)).mono ?_;rintro e w19 ⟨hbp4,p4n,p4A,p4k,p4c,p4m,p4B,p4j,p4d,rfl,p4f⟩;replace hF1:=Zb (hF1.out.below hbp4);replace hF2:=Zb (hF2.out.below hbp4);replace hL3:=Zb (hL3.out.below hbp4);replace p1f:=Zb (p1f.out.below hbp4);replace p2f:=Zb (p2f.out.below hbp4);replace p3f:=Zb (p3f.out.below hbp4);have hB20:=Zb (hB18.out.trans (hbp4.mono hB18.out.size));clear hB18;clear hbp4;rw [one_four.2.2.2] at p4f;replace p4f:=Zb p4f;go_wp2_with fail;refine (Zbj 0 1 w19 (by decide) (by decide) (by decide) (by decide)).mono ?_;rintro e w21 ⟨hbp5,p5n,p5A,p5k,p5c,p5m,p5B,p5j,p5d,rfl,p5f⟩;replace hF1:=Zb (hF1.out.below hbp5);replace hF2:=Zb (hF2.out.below hbp5);replace hL3:=Zb (hL3.out.below hbp5);replace p1f:=Zb (p1f.out.below hbp5);replace p2f:=Zb (p2f.out.below hbp5);replace p3f:=Zb (p3f.out.below hbp5);replace p4f:=Zb (p4f.out.below hbp5);have hB22:=Zb (hB20.out.trans (hbp5.mono hB20.out.size));clear hB20;clear hbp5;rw [one_four.2.2.2] at p5f;replace p5f:=Zb p5f;go_wp2_with fail;refine (Zbj 0 1 w21 (by decide) (by decide) (by decide) (by decide)).mono ?_;rintro e w23 ⟨hbp6,p6n,p6A,p6k,p6c,p6m,p6B,p6j,p6d,rfl,p6f⟩;replace hF1:=Zb (hF1.out.below hbp6);replace hF2:=Zb (hF2.out.below hbp6);replace hL3:=Zb (hL3.out.below hbp6);replace p1f:=Zb (p1f.out.below hbp6);replace p2f:=Zb (p2f.out.below hbp6);replace p3f:=Zb (p3f.out.below hbp6);replace p4f:=Zb (p4f.out.below hbp6)
 replace p5f:=Zb (p5f.out.below hbp6);have hB24:=Zb (hB22.out.trans (hbp6.mono hB22.out.size));clear hB22;clear hbp6;rw [one_four.2.2.2] at p6f;replace p6f:=Zb p6f;obtain ⟨g25,hg26⟩ : ∃ g,w23.heap.size = g:=⟨_,rfl⟩;obtain ⟨V27,hV28,q29,hb30⟩:=Zdq (w:=w23) 29 #[.bool p1n,.slice p1A p1k p1c,.bool p1m,.slice p1B p1j p1d,.bool p2n,.slice p2A p2k p2c,.bool p2m,.slice p2B p2j p2d,.bool p3n,.slice p3A p3k p3c,.bool p3m,.slice p3B p3j p3d,.bool p4n,.slice p4A p4k p4c,.bool p4m,.slice p4B p4j p4d,.bool p5n,.slice p5A p5k p5c,.bool p5m,.slice p5B p5j p5d,.bool p6n,.slice p6A p6k p6c,.bool p6m,.slice p6B p6j p6d];rw [hg26] at q29;replace hF1:=Zb (hF1.out.below hb30);replace hF2:=Zb (hF2.out.below hb30);replace hL3:=Zb (hL3.out.below hb30);replace p1f:=Zb (p1f.out.below hb30);replace p2f:=Zb (p2f.out.below hb30);replace p3f:=Zb (p3f.out.below hb30);replace p4f:=Zb (p4f.out.below hb30);replace p5f:=Zb (p5f.out.below hb30);replace p6f:=Zb (p6f.out.below hb30);have hB31:=Zb (hB24.out.trans (hb30.mono hB24.out.size));clear hB24;clear hb30;replace q29:=Zb q29
 have hF7 : FL V27 (some ⟨g25,0,none⟩) 6 6 Zck:=FL.made (es:=[⟨p1n,p1A,p1k,p1c,p1m,p1B,p1j,p1d,1⟩,⟨p2n,p2A,p2k,p2c,p2m,p2B,p2j,p2d,1 / 4⟩,⟨p3n,p3A,p3k,p3c,p3m,p3B,p3j,p3d,0⟩,⟨p4n,p4A,p4k,p4c,p4m,p4B,p4j,p4d,0⟩,⟨p5n,p5A,p5k,p5c,p5m,p5B,p5j,p5d,0⟩,⟨p6n,p6A,p6k,p6c,p6m,p6B,p6j,p6d,0⟩]) q29.out (fun e he=>by
  simp only [List.mem_cons,List.not_mem_nil,or_false] at he
  rcases he with rfl | rfl | rfl | rfl | rfl | rfl
  ·exact p1f.out
  ·exact p2f.out
  ·exact p3f.out
  ·exact p4f.out
  ·exact p5f.out
  ·exact p6f.out) (by simp)
 clear q29 p1f p2f p3f p4f p5f p6f;replace hF7:=Zb hF7;go_wp2_with fail;(try rw [hg26]);(try rw [hV28]);clear hV28;replace hg26:=Zb hg26;refine (Zhe V27).mono ?_;rintro e w32 ⟨rfl,hbr⟩;replace hF1:=Zb (hF1.out.below hbr);replace hF2:=Zb (hF2.out.below hbr);replace hL3:=Zb (hL3.out.below hbr);replace hF7:=Zb (hF7.out.below hbr);have hB33:=Zb (hB31.out.trans (hbr.mono hB31.out.size));clear hB31;clear hbr;go_wp2_with fail;refine (Zhe w32).mono ?_;rintro e w34 ⟨rfl,hbr⟩;replace hF1:=Zb (hF1.out.below hbr);replace hF2:=Zb (hF2.out.below hbr);replace hL3:=Zb (hL3.out.below hbr);replace hF7:=Zb (hF7.out.below hbr);have hB35:=Zb (hB33.out.trans (hbr.mono hB33.out.size));clear hB33;clear hbr;obtain ⟨g8,hg8⟩ : ∃ g,w34.heap.size = g:=⟨_,rfl⟩;obtain ⟨V8,hV8,q8,hb8⟩:=Zdq (w:=w34) 46 #[.int .i64 0,.int .i64 1099511627772,.int .i64 (-1),.int .i64 0,.int .i64 0,.int .i64 0,.int .i64 0];rw [hg8] at q8;obtain ⟨V9,hV9,q9,hb9⟩:=Zdq (w:=V8) 46 #[.int .i64 0,.int .i64 1099511627780,.int .i64 1,.int .i64 0,.int .i64 0,.int .i64 0,.int .i64 0];rw [show V8.heap.size = g8 + 1 by rw [<- hV8,<- hg8];simp] at q9;replace hF1:=Zb (hF1.out.below hb8);replace hF2:=Zb (hF2.out.below hb8);replace hL3:=Zb (hL3.out.below hb8);replace hF7:=Zb (hF7.out.below hb8);have hB36:=Zb (hB35.out.trans (hb8.mono hB35.out.size));clear hB35;replace q8:=Zb q8;replace hF1:=Zb (hF1.out.below hb9);replace hF2:=Zb (hF2.out.below hb9);replace hL3:=Zb (hL3.out.below hb9);replace hF7:=Zb (hF7.out.below hb9)
 replace q8:=Zb (Zd hb9 q8.out);have hB37:=Zb (hB36.out.trans (hb9.mono hB36.out.size));clear hB36;replace q9:=Zb q9;clear hb8 hb9;replace hg8:=Zb hg8;replace hV8:=Zb hV8;replace hV9:=Zb hV9;go_wp2_with fail;rw [hV8.out,hg8.out,hV9.out];clear hV8 hV9;have cc38 : V9.cell? ⟨g8,0,none⟩ = some (.int .i64 0):=q8.out.cell 0;have cc39 : V9.cell? ⟨g8,1,none⟩ = some (.int .i64 1099511627772):=q8.out.cell 1;have cc40 : V9.cell? ⟨g8,2,none⟩ = some (.int .i64 (-1)):=q8.out.cell 2;have cc41 : V9.cell? ⟨g8,3,none⟩ = some (.int .i64 0):=q8.out.cell 3;have cc42 : V9.cell? ⟨g8,4,none⟩ = some (.int .i64 0):=q8.out.cell 4;have cc43 : V9.cell? ⟨g8,5,none⟩ = some (.int .i64 0):=q8.out.cell 5;have cc44 : V9.cell? ⟨g8,6,none⟩ = some (.int .i64 0):=q8.out.cell 6;have cc45 : V9.cell? ⟨g8 + 1,0,none⟩ = some (.int .i64 0):=q9.out.cell 0;have cc46 : V9.cell? ⟨g8 + 1,1,none⟩ = some (.int .i64 1099511627780):=q9.out.cell 1;have cc47 : V9.cell? ⟨g8 + 1,2,none⟩ = some (.int .i64 1):=q9.out.cell 2;have cc48 : V9.cell? ⟨g8 + 1,3,none⟩ = some (.int .i64 0):=q9.out.cell 3;have cc49 : V9.cell? ⟨g8 + 1,4,none⟩ = some (.int .i64 0):=q9.out.cell 4;have cc50 : V9.cell? ⟨g8 + 1,5,none⟩ = some (.int .i64 0):=q9.out.cell 5;have cc51 : V9.cell? ⟨g8 + 1,6,none⟩ = some (.int .i64 0):=q9.out.cell 6;have hr52 : Below V9.heap.size V9 V9.drew:=Zh (Below.refl _ _) 1;replace hF1:=Zb (hF1.out.below hr52);replace hF2:=Zb (hF2.out.below hr52);replace hL3:=Zb (hL3.out.below hr52);replace hF7:=Zb (hF7.out.below hr52)
 replace q8:=Zb (Zd hr52 q8.out);replace q9:=Zb (Zd hr52 q9.out);have hB53:=Zb (hB37.out.trans (hr52.mono hB37.out.size));clear hB37;replace cc38:=Za hr52 cc38;replace cc39:=Za hr52 cc39;replace cc40:=Za hr52 cc40;replace cc41:=Za hr52 cc41;replace cc42:=Za hr52 cc42;replace cc43:=Za hr52 cc43;replace cc44:=Za hr52 cc44;replace cc45:=Za hr52 cc45;replace cc46:=Za hr52 cc46;replace cc47:=Za hr52 cc47;replace cc48:=Za hr52 cc48;replace cc49:=Za hr52 cc49;replace cc50:=Za hr52 cc50;replace cc51:=Za hr52 cc51;clear hr52;refine Z1 [] (fun wx=>(wx.cell? ⟨g8,0,none⟩ = some (.int .i64 0)) /\ (wx.cell? ⟨g8,1,none⟩ = some (.int .i64 1099511627772)) /\ (wx.cell? ⟨g8,2,none⟩ = some (.int .i64 (-1))) /\ (wx.cell? ⟨g8,3,none⟩ = some (.int .i64 0)) /\ (wx.cell? ⟨g8,4,none⟩ = some (.int .i64 0)) /\ (wx.cell? ⟨g8,5,none⟩ = some (.int .i64 0)) /\ (wx.cell? ⟨g8,6,none⟩ = some (.int .i64 0)) /\ (wx.cell? ⟨g8 + 1,0,none⟩ = some (.int .i64 0)) /\ (wx.cell? ⟨g8 + 1,1,none⟩ = some (.int .i64 1099511627780)) /\ (wx.cell? ⟨g8 + 1,2,none⟩ = some (.int .i64 1)) /\ (wx.cell? ⟨g8 + 1,3,none⟩ = some (.int .i64 0)) /\ (wx.cell? ⟨g8 + 1,4,none⟩ = some (.int .i64 0)) /\ (wx.cell? ⟨g8 + 1,5,none⟩ = some (.int .i64 0)) /\ (wx.cell? ⟨g8 + 1,6,none⟩ = some (.int .i64 0))) hmx ⟨cc38,cc39,cc40,cc41,cc42,cc43,cc44,cc45,cc46,cc47,cc48,cc49,cc50,cc51⟩ (fun _=>?_)
 refine Zc (i:=0) (v:=?vt1) rfl (by kernel_rfl) (by kernel_rfl) (by kernel_rfl) (by kernel_rfl) (by kernel_rfl) (Or.inl ⟨by kernel_rfl,?hyt1⟩) ⟨cc38,cc39,cc40,cc41,cc42,cc43,cc44,cc45,cc46,cc47,cc48,cc49,cc50,cc51⟩ ?rt1
 case hyt1=>(intro W2 hSw;(try dsimp only at hSw);go_simp;try with_reducible rfl)
 try simp only [Act.put,putL_a,putL_z,putL_s,putG_a,putG_s,putG_z]
 refine Zc (i:=1) (v:=?vt2) rfl (by kernel_rfl) (by kernel_rfl) (by kernel_rfl) (by kernel_rfl) (by kernel_rfl) (Or.inl ⟨by kernel_rfl,?hyt2⟩) ⟨cc38,cc39,cc40,cc41,cc42,cc43,cc44,cc45,cc46,cc47,cc48,cc49,cc50,cc51⟩ ?rt2
 case hyt2=>(intro W2 hSw;(try dsimp only at hSw);go_simp;try with_reducible rfl)
 try simp only [Act.put,putL_a,putL_z,putL_s,putG_a,putG_s,putG_z]
 refine Zc (i:=2) (v:=?vt3) rfl (by kernel_rfl) (by kernel_rfl) (by kernel_rfl) (by kernel_rfl) (by kernel_rfl) (Or.inl ⟨by kernel_rfl,?hyt3⟩) ⟨cc38,cc39,cc40,cc41,cc42,cc43,cc44,cc45,cc46,cc47,cc48,cc49,cc50,cc51⟩ ?rt3
 case hyt3=>(intro W2 hSw;(try dsimp only at hSw);go_simp;try with_reducible rfl)
 try simp only [Act.put,putL_a,putL_z,putL_s,putG_a,putG_s,putG_z]
 refine Zc (i:=3) (v:=?vt4) rfl (by kernel_rfl) (by kernel_rfl) (by kernel_rfl) (by kernel_rfl) (by kernel_rfl) (Or.inl ⟨by kernel_rfl,?hyt4⟩) ⟨cc38,cc39,cc40,cc41,cc42,cc43,cc44,cc45,cc46,cc47,cc48,cc49,cc50,cc51⟩ ?rt4
 case hyt4=>(intro W2 hSw;(try dsimp only at hSw);go_simp;try with_reducible rfl)
 try simp only [Act.put,putL_a,putL_z,putL_s,putG_a,putG_s,putG_z]
 refine Ze (i:=4) rfl (by kernel_rfl) (fun K hK=>?_);(try rw [if_pos (by kernel_rfl)]);go_simp;refine (Zbj 1 4 V9.drew (by decide) (by decide) (by decide) (by decide)).mono ?_;rintro e w54 ⟨hbr1,r1n,r1A,r1k,r1c,r1m,r1B,r1j,r1d,rfl,r1f⟩;replace hF1:=Zb (hF1.out.below hbr1);replace hF2:=Zb (hF2.out.below hbr1);replace hL3:=Zb (hL3.out.below hbr1);replace hF7:=Zb (hF7.out.below hbr1);replace q8:=Zb (Zd hbr1 q8.out);replace q9:=Zb (Zd hbr1 q9.out);have hB55:=Zb (hB53.out.trans (hbr1.mono hB53.out.size));clear hB53;replace cc38:=Za hbr1 cc38;replace cc39:=Za hbr1 cc39;replace cc40:=Za hbr1 cc40;replace cc41:=Za hbr1 cc41;replace cc42:=Za hbr1 cc42;replace cc43:=Za hbr1 cc43;replace cc44:=Za hbr1 cc44;replace cc45:=Za hbr1 cc45;replace cc46:=Za hbr1 cc46;replace cc47:=Za hbr1 cc47;replace cc48:=Za hbr1 cc48;replace cc49:=Za hbr1 cc49;replace cc50:=Za hbr1 cc50;replace cc51:=Za hbr1 cc51;clear hbr1;rw [one_four.1] at r1f;replace r1f:=Zb r1f;refine hK.out _ _ (fun _=>⟨cc38,cc39,cc40,cc41,cc42,cc43,cc44,cc45,cc46,cc47,cc48,cc49,cc50,cc51⟩) ?_;clear hK K
 try simp only [Act.put,putL_a,putL_z,putL_s,putG_a,putG_s,putG_z]
 refine Ze (i:=5) rfl (by kernel_rfl) (fun K hK=>?_);(try rw [if_pos (by kernel_rfl)]);go_simp;refine (Zbj 1 2 w54 (by decide) (by decide) (by decide) (by decide)).mono ?_;rintro e w56 ⟨hbr2,r2n,r2A,r2k,r2c,r2m,r2B,r2j,r2d,rfl,r2f⟩;replace hF1:=Zb (hF1.out.below hbr2);replace hF2:=Zb (hF2.out.below hbr2);replace hL3:=Zb (hL3.out.below hbr2);replace hF7:=Zb (hF7.out.below hbr2);replace q8:=Zb (Zd hbr2 q8.out);replace q9:=Zb (Zd hbr2 q9.out);replace r1f:=Zb (r1f.out.below hbr2);have hB57:=Zb (hB55.out.trans (hbr2.mono hB55.out.size));clear hB55;replace cc38:=Za hbr2 cc38;replace cc39:=Za hbr2 cc39;replace cc40:=Za hbr2 cc40;replace cc41:=Za hbr2 cc41;replace cc42:=Za hbr2 cc42;replace cc43:=Za hbr2 cc43;replace cc44:=Za hbr2 cc44;replace cc45:=Za hbr2 cc45;replace cc46:=Za hbr2 cc46;replace cc47:=Za hbr2 cc47;replace cc48:=Za hbr2 cc48;replace cc49:=Za hbr2 cc49;replace cc50:=Za hbr2 cc50;replace cc51:=Za hbr2 cc51;clear hbr2;rw [one_four.2.1] at r2f;replace r2f:=Zb r2f;refine hK.out _ _ (fun _=>⟨cc38,cc39,cc40,cc41,cc42,cc43,cc44,cc45,cc46,cc47,cc48,cc49,cc50,cc51⟩) ?_;clear hK K
 try simp only [Act.put,putL_a,putL_z,putL_s,putG_a,putG_s,putG_z]
 refine Ze (i:=6) rfl (by kernel_rfl) (fun K hK=>?_);(try rw [if_pos (by kernel_rfl)]);go_simp;refine (Zbj 1 4 w56 (by decide) (by decide) (by decide) (by decide)).mono ?_;rintro e w58 ⟨hbr3,r3n,r3A,r3k,r3c,r3m,r3B,r3j,r3d,rfl,r3f⟩;replace hF1:=Zb (hF1.out.below hbr3);replace hF2:=Zb (hF2.out.below hbr3);replace hL3:=Zb (hL3.out.below hbr3);replace hF7:=Zb (hF7.out.below hbr3);replace q8:=Zb (Zd hbr3 q8.out);replace q9:=Zb (Zd hbr3 q9.out);replace r1f:=Zb (r1f.out.below hbr3);replace r2f:=Zb (r2f.out.below hbr3);have hB59:=Zb (hB57.out.trans (hbr3.mono hB57.out.size));clear hB57;replace cc38:=Za hbr3 cc38;replace cc39:=Za hbr3 cc39;replace cc40:=Za hbr3 cc40;replace cc41:=Za hbr3 cc41;replace cc42:=Za hbr3 cc42;replace cc43:=Za hbr3 cc43;replace cc44:=Za hbr3 cc44;replace cc45:=Za hbr3 cc45;replace cc46:=Za hbr3 cc46;replace cc47:=Za hbr3 cc47;replace cc48:=Za hbr3 cc48;replace cc49:=Za hbr3 cc49;replace cc50:=Za hbr3 cc50;replace cc51:=Za hbr3 cc51;clear hbr3;rw [one_four.1] at r3f;replace r3f:=Zb r3f;refine hK.out _ _ (fun _=>⟨cc38,cc39,cc40,cc41,cc42,cc43,cc44,cc45,cc46,cc47,cc48,cc49,cc50,cc51⟩) ?_;clear hK K
 try simp only [Act.put,putL_a,putL_z,putL_s,putG_a,putG_s,putG_z]
 obtain ⟨g60,hg61⟩ : ∃ g,w58.heap.size = g:=⟨_,rfl⟩;obtain ⟨V62,hV63,q64,hb65⟩:=Zdq (w:=w58) 29 #[.bool r1n,.slice r1A r1k r1c,.bool r1m,.slice r1B r1j r1d,.bool r2n,.slice r2A r2k r2c,.bool r2m,.slice r2B r2j r2d,.bool r3n,.slice r3A r3k r3c,.bool r3m,.slice r3B r3j r3d];rw [hg61] at q64;refine Ze (i:=7) rfl (by kernel_rfl) (fun K hK=>?_);(try rw [if_pos (by kernel_rfl)]);go_simp;(try rw [hg61]);(try rw [hV63]);clear hV63;replace hF1:=Zb (hF1.out.below hb65);replace hF2:=Zb (hF2.out.below hb65);replace hL3:=Zb (hL3.out.below hb65);replace hF7:=Zb (hF7.out.below hb65);replace q8:=Zb (Zd hb65 q8.out);replace q9:=Zb (Zd hb65 q9.out);replace r1f:=Zb (r1f.out.below hb65);replace r2f:=Zb (r2f.out.below hb65);replace r3f:=Zb (r3f.out.below hb65);have hB66:=Zb (hB59.out.trans (hb65.mono hB59.out.size));clear hB59;replace cc38:=Za hb65 cc38;replace cc39:=Za hb65 cc39;replace cc40:=Za hb65 cc40;replace cc41:=Za hb65 cc41;replace cc42:=Za hb65 cc42;replace cc43:=Za hb65 cc43;replace cc44:=Za hb65 cc44;replace cc45:=Za hb65 cc45;replace cc46:=Za hb65 cc46;replace cc47:=Za hb65 cc47;replace cc48:=Za hb65 cc48;replace cc49:=Za hb65 cc49;replace cc50:=Za hb65 cc50;replace cc51:=Za hb65 cc51;clear hb65;replace q64:=Zb q64;replace hg61:=Zb hg61;refine hK.out _ _ (fun _=>⟨cc38,cc39,cc40,cc41,cc42,cc43,cc44,cc45,cc46,cc47,cc48,cc49,cc50,cc51⟩) ?_;clear hK K
 try simp only [Act.put,putL_a,putL_z,putL_s,putG_a,putG_s,putG_z]
 have hFr : FL V62 (some ⟨g60,0,none⟩) 3 3 [1 / 4,1 / 2,1 / 4]:=FL.made (es:=[⟨r1n,r1A,r1k,r1c,r1m,r1B,r1j,r1d,1 / 4⟩,⟨r2n,r2A,r2k,r2c,r2m,r2B,r2j,r2d,1 / 2⟩,⟨r3n,r3A,r3k,r3c,r3m,r3B,r3j,r3d,1 / 4⟩]) q64.out (fun e he=>by
  simp only [List.mem_cons,List.not_mem_nil,or_false] at he
  rcases he with rfl | rfl | rfl
  ·exact r1f.out
  ·exact r2f.out
  ·exact r3f.out) (by simp)
 clear q64 r1f r2f r3f;replace hFr:=Zb hFr;refine Ze (i:=8) rfl (by kernel_rfl) (fun K hK=>?_);(try rw [if_pos (by kernel_rfl)]);go_simp;refine (Zfr A1 (some ⟨g60,0,none⟩) 3 k1 3 _ V62 hF1.out.xl hFr.out.xl).mono ?_;rintro e w67 ⟨rfl,hbS⟩;replace hF1:=Zb (hF1.out.below hbS);replace hF2:=Zb (hF2.out.below hbS);replace hL3:=Zb (hL3.out.below hbS);replace hF7:=Zb (hF7.out.below hbS);replace q8:=Zb (Zd hbS q8.out);replace q9:=Zb (Zd hbS q9.out);replace hFr:=Zb (hFr.out.below hbS);have hB68:=Zb (hB66.out.trans (hbS.mono hB66.out.size));clear hB66;replace cc38:=Za hbS cc38;replace cc39:=Za hbS cc39;replace cc40:=Za hbS cc40;replace cc41:=Za hbS cc41;replace cc42:=Za hbS cc42;replace cc43:=Za hbS cc43;replace cc44:=Za hbS cc44;replace cc45:=Za hbS cc45;replace cc46:=Za hbS cc46;replace cc47:=Za hbS cc47;replace cc48:=Za hbS cc48;replace cc49:=Za hbS cc49;replace cc50:=Za hbS cc50;replace cc51:=Za hbS cc51;clear hbS;refine hK.out _ _ (fun _=>⟨cc38,cc39,cc40,cc41,cc42,cc43,cc44,cc45,cc46,cc47,cc48,cc49,cc50,cc51⟩) ?_;clear hK K
 try simp only [Act.put,putL_a,putL_z,putL_s,putG_a,putG_s,putG_z]
 clear hF1 hFr;refine Zc (i:=9) (v:=?vt5) rfl (by kernel_rfl) (by kernel_rfl) (by kernel_rfl) (by kernel_rfl) (by kernel_rfl) (Or.inl ⟨by kernel_rfl,?hyt5⟩) ⟨cc38,cc39,cc40,cc41,cc42,cc43,cc44,cc45,cc46,cc47,cc48,cc49,cc50,cc51⟩ ?rt5
 case hyt5=>(intro W2 hSw;(try dsimp only at hSw);go_simp;try with_reducible rfl)
 try simp only [Act.put,putL_a,putL_z,putL_s,putG_a,putG_s,putG_z]
 refine Zc (i:=10) (v:=?vt6) rfl (by kernel_rfl) (by kernel_rfl) (by kernel_rfl) (by kernel_rfl) (by kernel_rfl) (Or.inl ⟨by kernel_rfl,?hyt6⟩) ⟨cc38,cc39,cc40,cc41,cc42,cc43,cc44,cc45,cc46,cc47,cc48,cc49,cc50,cc51⟩ ?rt6
 case hyt6=>(intro W2 hSw;(try dsimp only at hSw);go_simp;try with_reducible rfl)
 try simp only [Act.put,putL_a,putL_z,putL_s,putG_a,putG_s,putG_z]
 refine Zc (i:=11) (v:=?vt7) rfl (by kernel_rfl) (by kernel_rfl) (by kernel_rfl) (by kernel_rfl) (by kernel_rfl) (Or.inl ⟨by kernel_rfl,?hyt7⟩) ⟨cc38,cc39,cc40,cc41,cc42,cc43,cc44,cc45,cc46,cc47,cc48,cc49,cc50,cc51⟩ ?rt7
 case hyt7=>(intro W2 hSw;(try dsimp only at hSw);go_simp;try with_reducible rfl)
 try simp only [Act.put,putL_a,putL_z,putL_s,putG_a,putG_s,putG_z]
 refine Zc (i:=12) (v:=?vt8) rfl (by kernel_rfl) (by kernel_rfl) (by kernel_rfl) (by kernel_rfl) (by kernel_rfl) (Or.inl ⟨by kernel_rfl,?hyt8⟩) ⟨cc38,cc39,cc40,cc41,cc42,cc43,cc44,cc45,cc46,cc47,cc48,cc49,cc50,cc51⟩ ?rt8
 case hyt8=>(intro W2 hSw;(try dsimp only at hSw);go_simp;try with_reducible rfl)
 try simp only [Act.put,putL_a,putL_z,putL_s,putG_a,putG_s,putG_z]
 refine Zc (i:=13) (v:=?vt9) rfl (by kernel_rfl) (by kernel_rfl) (by kernel_rfl) (by kernel_rfl) (by kernel_rfl) (Or.inl ⟨by kernel_rfl,?hyt9⟩) ⟨cc38,cc39,cc40,cc41,cc42,cc43,cc44,cc45,cc46,cc47,cc48,cc49,cc50,cc51⟩ ?rt9
 case hyt9=>(intro W2 hSw;(try dsimp only at hSw);go_simp;try with_reducible rfl)
 try simp only [Act.put,putL_a,putL_z,putL_s,putG_a,putG_s,putG_z]
 refine Zc (i:=14) (v:=?vt10) rfl (by kernel_rfl) (by kernel_rfl) (by kernel_rfl) (by kernel_rfl) (by kernel_rfl) (Or.inl ⟨by kernel_rfl,?hyt10⟩) ⟨cc38,cc39,cc40,cc41,cc42,cc43,cc44,cc45,cc46,cc47,cc48,cc49,cc50,cc51⟩ ?rt10
 case hyt10=>(intro W2 hSw;(try dsimp only at hSw);go_simp;try with_reducible rfl)
 try simp only [Act.put,putL_a,putL_z,putL_s,putG_a,putG_s,putG_z]
 refine Zc (i:=15) (v:=?vt11) rfl (by kernel_rfl) (by kernel_rfl) (by kernel_rfl) (by kernel_rfl) (by kernel_rfl) (Or.inl ⟨by kernel_rfl,?hyt11⟩) ⟨cc38,cc39,cc40,cc41,cc42,cc43,cc44,cc45,cc46,cc47,cc48,cc49,cc50,cc51⟩ ?rt11
 case hyt11=>(intro W2 hSw;(try dsimp only at hSw);go_simp;try with_reducible rfl)
 try simp only [Act.put,putL_a,putL_z,putL_s,putG_a,putG_s,putG_z]
 refine Zc (i:=16) (v:=?vt12) rfl (by kernel_rfl) (by kernel_rfl) (by kernel_rfl) (by kernel_rfl) (by kernel_rfl) (Or.inl ⟨by kernel_rfl,?hyt12⟩) ⟨cc38,cc39,cc40,cc41,cc42,cc43,cc44,cc45,cc46,cc47,cc48,cc49,cc50,cc51⟩ ?rt12
 case hyt12=>(intro W2 hSw;(try dsimp only at hSw);go_simp;try with_reducible rfl)
 try simp only [Act.put,putL_a,putL_z,putL_s,putG_a,putG_s,putG_z]
 refine Ze (i:=17) rfl (by kernel_rfl) (fun K hK=>?_);(try rw [if_pos (by kernel_rfl)]);go_simp;refine (Zfr A2 (some ⟨g25,0,none⟩) 6 k2 6 _ w67 hF2.out.xl hF7.out.xl).mono ?_;rintro e w69 ⟨rfl,hbS⟩;replace hF2:=Zb (hF2.out.below hbS);replace hL3:=Zb (hL3.out.below hbS);replace hF7:=Zb (hF7.out.below hbS);replace q8:=Zb (Zd hbS q8.out);replace q9:=Zb (Zd hbS q9.out);have hB70:=Zb (hB68.out.trans (hbS.mono hB68.out.size));clear hB68;replace cc38:=Za hbS cc38;replace cc39:=Za hbS cc39;replace cc40:=Za hbS cc40;replace cc41:=Za hbS cc41;replace cc42:=Za hbS cc42;replace cc43:=Za hbS cc43;replace cc44:=Za hbS cc44;replace cc45:=Za hbS cc45;replace cc46:=Za hbS cc46;replace cc47:=Za hbS cc47;replace cc48:=Za hbS cc48;replace cc49:=Za hbS cc49;replace cc50:=Za hbS cc50;replace cc51:=Za hbS cc51;clear hbS;refine hK.out _ _ (fun _=>⟨cc38,cc39,cc40,cc41,cc42,cc43,cc44,cc45,cc46,cc47,cc48,cc49,cc50,cc51⟩) ?_;clear hK K
 try simp only [Act.put,putL_a,putL_z,putL_s,putG_a,putG_s,putG_z]
 clear hF2 hF7;refine Zc (i:=18) (v:=?vt13) rfl (by kernel_rfl) (by kernel_rfl) (by kernel_rfl) (by kernel_rfl) (by kernel_rfl) (Or.inl ⟨by kernel_rfl,?hyt13⟩) ⟨cc38,cc39,cc40,cc41,cc42,cc43,cc44,cc45,cc46,cc47,cc48,cc49,cc50,cc51⟩ ?rt13
 case hyt13=>(intro W2 hSw;(try dsimp only at hSw);go_simp;try with_reducible rfl)
 try simp only [Act.put,putL_a,putL_z,putL_s,putG_a,putG_s,putG_z]
 refine Zc (i:=19) (v:=?vt14) rfl (by kernel_rfl) (by kernel_rfl) (by kernel_rfl) (by kernel_rfl) (by kernel_rfl) (Or.inl ⟨by kernel_rfl,?hyt14⟩) ⟨cc38,cc39,cc40,cc41,cc42,cc43,cc44,cc45,cc46,cc47,cc48,cc49,cc50,cc51⟩ ?rt14
 case hyt14=>(intro W2 hSw;(try dsimp only at hSw);go_simp;try with_reducible rfl)
 try simp only [Act.put,putL_a,putL_z,putL_s,putG_a,putG_s,putG_z]
 refine Zc (i:=20) (v:=?vt15) rfl (by kernel_rfl) (by kernel_rfl) (by kernel_rfl) (by kernel_rfl) (by kernel_rfl) (Or.inl ⟨by kernel_rfl,?hyt15⟩) ⟨cc38,cc39,cc40,cc41,cc42,cc43,cc44,cc45,cc46,cc47,cc48,cc49,cc50,cc51⟩ ?rt15
 case hyt15=>(intro W2 hSw;(try dsimp only at hSw);go_simp;try with_reducible rfl)
 try simp only [Act.put,putL_a,putL_z,putL_s,putG_a,putG_s,putG_z]
 refine Zc (i:=21) (v:=?vt16) rfl (by kernel_rfl) (by kernel_rfl) (by kernel_rfl) (by kernel_rfl) (by kernel_rfl) (Or.inl ⟨by kernel_rfl,?hyt16⟩) ⟨cc38,cc39,cc40,cc41,cc42,cc43,cc44,cc45,cc46,cc47,cc48,cc49,cc50,cc51⟩ ?rt16
 case hyt16=>(intro W2 hSw;(try dsimp only at hSw);go_simp;try with_reducible rfl)
 try simp only [Act.put,putL_a,putL_z,putL_s,putG_a,putG_s,putG_z]
 refine Zc (i:=22) (v:=?vt17) rfl (by kernel_rfl) (by kernel_rfl) (by kernel_rfl) (by kernel_rfl) (by kernel_rfl) (Or.inl ⟨by kernel_rfl,?hyt17⟩) ⟨cc38,cc39,cc40,cc41,cc42,cc43,cc44,cc45,cc46,cc47,cc48,cc49,cc50,cc51⟩ ?rt17
 case hyt17=>(intro W2 hSw;(try dsimp only at hSw);go_simp;try with_reducible rfl)
 try simp only [Act.put,putL_a,putL_z,putL_s,putG_a,putG_s,putG_z]
 refine Zc (i:=23) (v:=?vt18) rfl (by kernel_rfl) (by kernel_rfl) (by kernel_rfl) (by kernel_rfl) (by kernel_rfl) (Or.inl ⟨by kernel_rfl,?hyt18⟩) ⟨cc38,cc39,cc40,cc41,cc42,cc43,cc44,cc45,cc46,cc47,cc48,cc49,cc50,cc51⟩ ?rt18
 case hyt18=>(intro W2 hSw;(try dsimp only at hSw);go_simp;try with_reducible rfl)
 try simp only [Act.put,putL_a,putL_z,putL_s,putG_a,putG_s,putG_z]
 refine Zc (i:=24) (v:=?vt19) rfl (by kernel_rfl) (by kernel_rfl) (by kernel_rfl) (by kernel_rfl) (by kernel_rfl) (Or.inl ⟨by kernel_rfl,?hyt19⟩) ⟨cc38,cc39,cc40,cc41,cc42,cc43,cc44,cc45,cc46,cc47,cc48,cc49,cc50,cc51⟩ ?rt19
 case hyt19=>(intro W2 hSw;(try dsimp only at hSw);go_simp;try with_reducible rfl)
 try simp only [Act.put,putL_a,putL_z,putL_s,putG_a,putG_s,putG_z]
 refine Zc (i:=25) (v:=?vt20) rfl (by kernel_rfl) (by kernel_rfl) (by kernel_rfl) (by kernel_rfl) (by kernel_rfl) (Or.inl ⟨by kernel_rfl,?hyt20⟩) ⟨cc38,cc39,cc40,cc41,cc42,cc43,cc44,cc45,cc46,cc47,cc48,cc49,cc50,cc51⟩ ?rt20
 case hyt20=>(intro W2 hSw;(try dsimp only at hSw);go_simp;try with_reducible rfl)
 try simp only [Act.put,putL_a,putL_z,putL_s,putG_a,putG_s,putG_z]
 refine Zc (i:=27) (v:=?vt21) rfl (by kernel_rfl) (by kernel_rfl) (by kernel_rfl) (by kernel_rfl) (by kernel_rfl) (Or.inl ⟨by kernel_rfl,?hyt21⟩) ⟨cc38,cc39,cc40,cc41,cc42,cc43,cc44,cc45,cc46,cc47,cc48,cc49,cc50,cc51⟩ ?rt21
 case hyt21=>(intro W2 hSw;(try dsimp only at hSw);go_simp;try with_reducible rfl)
 try simp only [Act.put,putL_a,putL_z,putL_s,putG_a,putG_s,putG_z]
 refine Ze (i:=26) rfl (by kernel_rfl) (fun K hK=>?_);(try rw [if_pos (by kernel_rfl)]);go_simp;refine (Zhe w69).mono ?_;rintro e w71 ⟨rfl,hbr⟩;replace hL3:=Zb (hL3.out.below hbr);replace q8:=Zb (Zd hbr q8.out);replace q9:=Zb (Zd hbr q9.out);have hB72:=Zb (hB70.out.trans (hbr.mono hB70.out.size));clear hB70;replace cc38:=Za hbr cc38;replace cc39:=Za hbr cc39;replace cc40:=Za hbr cc40;replace cc41:=Za hbr cc41;replace cc42:=Za hbr cc42;replace cc43:=Za hbr cc43;replace cc44:=Za hbr cc44;replace cc45:=Za hbr cc45;replace cc46:=Za hbr cc46;replace cc47:=Za hbr cc47;replace cc48:=Za hbr cc48;replace cc49:=Za hbr cc49;replace cc50:=Za hbr cc50;replace cc51:=Za hbr cc51;clear hbr;refine hK.out _ _ (fun _=>⟨cc38,cc39,cc40,cc41,cc42,cc43,cc44,cc45,cc46,cc47,cc48,cc49,cc50,cc51⟩) ?_;clear hK K
 try simp only [Act.put,putL_a,putL_z,putL_s,putG_a,putG_s,putG_z]
 obtain ⟨g73,hg74⟩ : ∃ g,w71.heap.size = g:=⟨_,rfl⟩;obtain ⟨V75,hV76,q77,hb78⟩:=Zdq (w:=w71) 46 #[.int .i64 0,.int .i64 1099511627772,.int .i64 (-1),.int .i64 0,.int .i64 0,.int .i64 0,.int .i64 0,.int .i64 0,.int .i64 1099511627776,.int .i64 0,.int .i64 0,.int .i64 0,.int .i64 0,.int .i64 0,.int .i64 0,.int .i64 1099511627780,.int .i64 1,.int .i64 0,.int .i64 0,.int .i64 0,.int .i64 0];rw [hg74] at q77;refine Ze (i:=28) rfl (by kernel_rfl) (fun K hK=>?_);(try rw [if_pos (by kernel_rfl)]);go_simp;(try rw [hg74]);(try rw [hV76]);clear hV76;replace hL3:=Zb (hL3.out.below hb78);replace q8:=Zb (Zd hb78 q8.out);replace q9:=Zb (Zd hb78 q9.out);have hB79:=Zb (hB72.out.trans (hb78.mono hB72.out.size));clear hB72;replace cc38:=Za hb78 cc38;replace cc39:=Za hb78 cc39;replace cc40:=Za hb78 cc40;replace cc41:=Za hb78 cc41;replace cc42:=Za hb78 cc42;replace cc43:=Za hb78 cc43;replace cc44:=Za hb78 cc44;replace cc45:=Za hb78 cc45;replace cc46:=Za hb78 cc46;replace cc47:=Za hb78 cc47;replace cc48:=Za hb78 cc48;replace cc49:=Za hb78 cc49;replace cc50:=Za hb78 cc50;replace cc51:=Za hb78 cc51;clear hb78;replace q77:=Zb q77;replace hg74:=Zb hg74;refine hK.out _ _ (fun _=>⟨cc38,cc39,cc40,cc41,cc42,cc43,cc44,cc45,cc46,cc47,cc48,cc49,cc50,cc51⟩) ?_;clear hK K
 try simp only [Act.put,putL_a,putL_z,putL_s,putG_a,putG_s,putG_z]
 have hSs : SL V75 (some ⟨g73,0,none⟩) 3 3 [Zj7,Zb0,Zj2]:=SL.made (ss:=[Zj7,Zb0,Zj2]) q77.out (by simp);clear q77;replace hSs:=Zb hSs;refine Ze (i:=29) rfl (by kernel_rfl) (fun K hK=>?_);(try rw [if_pos (by kernel_rfl)]);go_simp;refine (Zk8 A3 (some ⟨g73,0,none⟩) 3 3 k3 3 _ _ V75 hL3.out hSs.out).mono ?_;rintro e w80 ⟨bS,rfl,hbo,hbS⟩;replace hL3:=Zb (hL3.out.below hbS);replace q8:=Zb (Zd hbS q8.out);replace q9:=Zb (Zd hbS q9.out);replace hSs:=Zb (hSs.out.below hbS);have hB81:=Zb (hB79.out.trans (hbS.mono hB79.out.size));clear hB79;replace cc38:=Za hbS cc38;replace cc39:=Za hbS cc39;replace cc40:=Za hbS cc40;replace cc41:=Za hbS cc41;replace cc42:=Za hbS cc42;replace cc43:=Za hbS cc43;replace cc44:=Za hbS cc44;replace cc45:=Za hbS cc45;replace cc46:=Za hbS cc46;replace cc47:=Za hbS cc47;replace cc48:=Za hbS cc48;replace cc49:=Za hbS cc49;replace cc50:=Za hbS cc50;replace cc51:=Za hbS cc51;clear hbS;obtain rfl : bS = true:=hbo.2 rfl;clear hbo;refine hK.out _ _ (fun _=>⟨cc38,cc39,cc40,cc41,cc42,cc43,cc44,cc45,cc46,cc47,cc48,cc49,cc50,cc51⟩) ?_;clear hK K
 try simp only [Act.put,putL_a,putL_z,putL_s,putG_a,putG_s,putG_z]
 refine Zc (i:=30) (v:=?vt22) rfl (by kernel_rfl) (by kernel_rfl) (by kernel_rfl) (by kernel_rfl) (by kernel_rfl) (Or.inl ⟨by kernel_rfl,?hyt22⟩) ⟨cc38,cc39,cc40,cc41,cc42,cc43,cc44,cc45,cc46,cc47,cc48,cc49,cc50,cc51⟩ ?rt22
 case hyt22=>(intro W2 hSw;(try dsimp only at hSw);go_simp;try with_reducible rfl)
 try simp only [Act.put,putL_a,putL_z,putL_s,putG_a,putG_s,putG_z]
 refine Zr (i:=31) (v:=?vt23) rfl (by kernel_rfl) (by kernel_rfl) (by kernel_rfl) (by kernel_rfl) (Or.inl ⟨by kernel_rfl,?hyt23⟩) (fun _=>⟨cc38,cc39,cc40,cc41,cc42,cc43,cc44,cc45,cc46,cc47,cc48,cc49,cc50,cc51⟩) ?rt23
 case hyt23=>(intro W2 _;go_simp;try with_reducible rfl)
 try simp only [Act.put,putL_a,putL_z,putL_s,putG_a,putG_s,putG_z]
 refine Zj (by kernel_rfl) ?_ _;refine OnlyNormal.normal ?_;clear cc38 cc39 cc40 cc41 cc42 cc43 cc44 cc45 cc46 cc47 cc48 cc49 cc50 cc51;go_wp2_with fail;go_ret;exact ⟨rfl,hB81.out⟩
def Zij (n k : Nat) : Rat:=if k = 0 then 0 else (Zeb 0 (Zc1 n))[k - 1]?.getD 0
theorem Zgg {q : Rat} (h : Zgs q = true) : Sm q:=by
 unfold Zgs at h;rw [Bool.and_eq_true,decide_eq_true_eq,decide_eq_true_eq] at h
 have e : pw 2 = 18446744073709551616:=by decide
 have h2 : pw 2 < pw 1000:=Zfu (by decide);rw [e] at h2;exact ⟨Nat.lt_trans h.1 h2,Nat.lt_trans h.2 h2⟩
theorem Zdf (n : Nat) : (Zc1 n).length = 2 * n + 1:=by rw [<- Zfv];exact Zf2
section
variable {n i : Nat}
theorem Zcv (hn : n <= 20) : (∀ q ∈ Zc1 n,0 <= q.num /\ Zgs q = true) /\ (Zc1 n).reverse = Zc1 n /\ Zl7 0 ((Zc1 n).take (n + 1)) = true /\ (∀ q ∈ Zeb 0 (Zc1 n),Zgs q = true) /\ (Zeb 0 (Zc1 n)).getLast? = some 1:=by
 have h:=Zp3 n hn;unfold weiOk at h;simp only [Bool.and_eq_true,decide_eq_true_eq,List.all_eq_true] at h;exact ⟨h.1.1.1.1,h.1.1.1.2,h.1.1.2,h.1.2,h.2⟩
theorem Zr7 (hi : i < 2 * n + 1) : (Zca n)[i]?.getD 0 ∈ Zc1 n:=by
 rw [Zfv,List.getElem?_eq_getElem (by rw [Zdf];exact hi)];exact List.getElem_mem _
theorem wei_pos (hn : n <= 20) (hi : i < 2 * n + 1) : 0 <= ((Zca n)[i]?.getD 0).num:=((Zcv hn).1 _ (Zr7 hi)).1
theorem Zql (hn : n <= 20) (hi : i < 2 * n + 1) : Sm ((Zca n)[i]?.getD 0):=Zgg ((Zcv hn).1 _ (Zr7 hi)).2
theorem Zqv (hn : n <= 20) (hi : i < 2 * n + 1) : (Zca n)[2 * n - i]?.getD 0 = (Zca n)[i]?.getD 0:=by
 have h:=(Zcv hn).2.1;rw [Zfv];have hl:=Zdf n
 have e : (Zc1 n)[2 * n - i]? = (Zc1 n)[i]?:=by
  have e1 : (Zc1 n).reverse[i]? = (Zc1 n)[2 * n - i]?:=by
   rw [List.getElem?_reverse (by rw [hl];exact hi),hl]
   congr 1
  rw [<- e1,h]
 rw [e]
theorem wei_up (hn : n <= 20) (h0 : 0 < i) (hi : i <= n) : (Zca n)[i - 1]?.getD 0 <= (Zca n)[i]?.getD 0:=by
 have h:=Zma 0 _ (Zcv hn).2.2.1 (i - 1) (by rw [List.length_take,Zdf];omega);rw [List.getElem?_take_of_lt (by omega),List.getElem?_take_of_lt (by omega),show i - 1 + 1 = i by omega] at h;rw [Zfv];exact h
theorem Zpt (hi : i < 2 * n + 1) : Zij n (i + 1) = Zij n i + (Zca n)[i]?.getD 0:=by
 have h:=Zmq 0 (Zc1 n) i (by rw [Zdf];exact hi);rw [Zfv];unfold Zij;rw [if_neg (by omega),Nat.add_sub_cancel];exact h
theorem sumW_sm (hn : n <= 20) (hi : i <= 2 * n + 1) : Sm (Zij n i):=by
 unfold Zij
 split
 ·exact Zgg (by decide +kernel)
 ·rename_i h0
  rw [List.getElem?_eq_getElem (by rw [Ziu,Zdf];omega)];exact Zgg ((Zcv hn).2.2.2.1 _ (List.getElem_mem _))
theorem Zq3 (hn : n <= 20) : Zij n (2 * n + 1) = 1:=by
 have h:=(Zcv hn).2.2.2.2;unfold Zij;rw [if_neg (by omega),Nat.add_sub_cancel];rw [List.getLast?_eq_getElem?,Ziu,Zdf,Nat.add_sub_cancel] at h;rw [h];rfl
end
theorem cmpQ_le {a b : Rat} (h : a <= b) : Zg8 a b = 0 \/ Zg8 a b = -1:=by
 unfold Zg8
 by_cases h1 : a < b
 ·exact .inr (if_pos h1)
 ·rw [if_neg h1,if_neg (Rat.not_lt.2 h)];exact .inl rfl
theorem Zml (n : Int) (w : World) (hn1 : -9223372036854775808 <= n) (hn2 : n <= 9223372036854775807) : Calls Tryz.prog 5 #[.int .i64 n] w fun e w'=>e = .returned (.bool true) /\ Below w.heap.size w w':=by
 have hmx : Tryz.prog.follows .mixedOrders = true:=by kernel_rfl
 have hAl:=Zb (fun W=>Zlc W);have hWe:=Zb (fun W=>Zf8 n W hn1 hn2);have hBB : Hid (Below w.heap.size w w):=Zb (Below.refl _ _);go_enter Tryz.func5,Tryz.ntmps5;go_wp2_with fail;refine (hAl.out w).mono ?_;rintro e w1 ⟨rfl,hb1⟩;have hB2:=Zb (hBB.out.trans (hb1.mono hBB.out.size));clear hBB;clear hb1;go_wp2_with fail;refine (hWe.out w1).mono ?_;rintro e w3 ⟨hb2,hc⟩;have hB4:=Zb (hB2.out.trans (hb2.mono hB2.out.size));clear hB2;clear hb2
 rcases hc with ⟨h0,h20,A,c,rfl,hF⟩ | ⟨hbad,rfl⟩
 case inr =>
  by_cases h0 : n < 0
  ·have t1 : decide (n < 0) = true:=decide_eq_true h0
   go_wp2_with fail;go_ret;exact ⟨rfl,hB4.out⟩
  ·have t1 : decide (n < 0) = false:=decide_eq_false h0
   have t2 : decide (20 < n) = true:=decide_eq_true (by omega);go_wp2_with fail;go_ret;exact ⟨rfl,hB4.out⟩
 obtain ⟨N,hN⟩ : ∃ N : Nat,n = N:=⟨n.toNat,by omega⟩;subst hN;rw [Int.toNat_natCast] at hF ⊢
 have hN20 : N <= 20:=by omega
 have t1 : decide ((N : Int) < 0) = false:=decide_eq_false (by omega);have t2 : decide (20 < (N : Int)) = false:=decide_eq_false (by omega);have t2' : decide (20 < N) = false:=decide_eq_false (by omega);have hcap:=hF.cap;unfold maxLen at hcap;replace h0:=Zb h0;replace h20:=Zb h20;clear hWe hAl;replace hF:=Zb hF;go_wp2_with fail;refine (Zbj 0 1 w3 (by decide) (by decide) (by decide) (by decide)).mono ?_;rintro e w5 ⟨hbs,sn,sA,sk,sc,sm,sB,sj,sd,rfl,sf⟩;replace hF:=Zb (hF.out.below hbs);have hB6:=Zb (hB4.out.trans (hbs.mono hB4.out.size));clear hB4;clear hbs;rw [one_four.2.2.2] at sf;replace sf:=Zb sf;have hF0:=hF;have hB0:=hB6;obtain ⟨g7,hg8⟩ : ∃ g,w5.heap.size = g:=⟨_,rfl⟩;obtain ⟨V9,hV10,q11,hb12⟩:=Zdq (w:=w5) 29 #[.bool sn,.slice sA sk sc,.bool sm,.slice sB sj sd];rw [hg8] at q11;have hbG:=Zb hb12;replace hF:=Zb (hF.out.below hb12);replace sf:=Zb (sf.out.below hb12);have hB13:=Zb (hB6.out.trans (hb12.mono hB6.out.size));clear hB6;clear hb12;replace q11:=Zb q11;go_wp2_with fail;(try rw [hg8]);(try rw [hV10]);clear hV10;replace hg8:=Zb hg8;have hF1:=hF0.out;obtain ⟨gw,ow,-,-,-,-,-,-,-,-,eA,-,-⟩:=hF1.at_ (k:=0) (by omega);clear hF1 hF;subst eA;replace sf : Hid (Fr V9 sn sA sk sc sm sB sj sd (Zij N 0)):=sf
 go_loopg [7,8,9] (2 * N + 1) (fun t iv cv ev wr=>∃ (i : Nat) (xn : Bool) (xA : Option Addr) (xk xc : Nat) (xm : Bool) (xB : Option Addr) (xj xd : Nat),i + t = 2 * N + 1 /\ iv = .int .i64 i /\ Hid (Below w5.heap.size w5 wr) /\ Hid (Blk wr g7 29 #[.bool xn,.slice xA xk xc,.bool xm,.slice xB xj xd]) /\ Hid (Fr wr xn xA xk xc xm xB xj xd (Zij N i)))
 case atStart=>exact ⟨0,_,_,_,_,_,_,_,_,by omega,by go_num,hbG,q11,sf⟩
 case round =>
  obtain ⟨wi,rfl⟩ : ∃ x : World,x = wr:=⟨_,rfl⟩;obtain ⟨i,xn,xA,xk,xc,xm,xB,xj,xd,hik,rfl,hBi,qx,hX⟩:=hrel;have sBi:=hBi.out.size;have hgi : w5.heap.size = g7:=hg8.out;replace hgi:=Zb hgi;have hlw:=hB0.out.size;clear hbG q11 sf
  cases gk with
  | zero =>
   obtain rfl : i = 2 * N + 1:=by omega
   have t3 : decide (((2 * N + 1 : Nat) : Int) < 2 * (N : Int) + 1) = false:=decide_eq_false (by omega);have hs1 : Hid (decide (Zij N (2 * N + 1) = 1) = true):=Zb (decide_eq_true (Zq3 hN20));have hBB:=Zb (hB0.out.trans (hBi.out.mono hlw));clear hBi hF0;go_wp2_with fail;have cc201 : wi.cell? ⟨g7,0,none⟩ = some (.bool xn):=qx.out.cell 0;have cc202 : wi.cell? ⟨g7,1,none⟩ = some (.slice xA xk xc):=qx.out.cell 1;have cc203 : wi.cell? ⟨g7,2,none⟩ = some (.bool xm):=qx.out.cell 2;have cc204 : wi.cell? ⟨g7,3,none⟩ = some (.slice xB xj xd):=qx.out.cell 3;have hr205 : Below wi.heap.size wi wi.drew:=Zh (Below.refl _ _) 1;replace qx:=Zb (Zd hr205 qx.out);replace hX:=Zb (hX.out.below hr205);have hB206:=Zb (hBB.out.trans (hr205.mono hBB.out.size));clear hBB;replace cc201:=Za hr205 cc201;replace cc202:=Za hr205 cc202;replace cc203:=Za hr205 cc203;replace cc204:=Za hr205 cc204;clear hr205;refine Z1 [] (fun wx=>(wx.cell? ⟨g7,0,none⟩ = some (.bool xn)) /\ (wx.cell? ⟨g7,1,none⟩ = some (.slice xA xk xc)) /\ (wx.cell? ⟨g7,2,none⟩ = some (.bool xm)) /\ (wx.cell? ⟨g7,3,none⟩ = some (.slice xB xj xd))) hmx ⟨cc201,cc202,cc203,cc204⟩ (fun _=>?_);refine Zc (i:=0) (v:=?vt1) rfl (by kernel_rfl) (by kernel_rfl) (by kernel_rfl) (by kernel_rfl) (by kernel_rfl) (Or.inl ⟨by kernel_rfl,?hyt1⟩) ⟨cc201,cc202,cc203,cc204⟩ ?rt1
   case hyt1=>(intro W2 hSw;(try dsimp only at hSw);go_simp;try with_reducible rfl)
   try simp only [Act.put,putL_a,putL_z,putL_s,putG_a,putG_s,putG_z]
   refine Zc (i:=1) (v:=?vt2) rfl (by kernel_rfl) (by kernel_rfl) (by kernel_rfl) (by kernel_rfl) (by kernel_rfl) (Or.inl ⟨by kernel_rfl,?hyt2⟩) ⟨cc201,cc202,cc203,cc204⟩ ?rt2
   case hyt2=>(intro W2 hSw;(try dsimp only at hSw);go_simp;try with_reducible rfl)
   try simp only [Act.put,putL_a,putL_z,putL_s,putG_a,putG_s,putG_z]
   refine Zc (i:=2) (v:=?vt3) rfl (by kernel_rfl) (by kernel_rfl) (by kernel_rfl) (by kernel_rfl) (by kernel_rfl) (Or.inl ⟨by kernel_rfl,?hyt3⟩) ⟨cc201,cc202,cc203,cc204⟩ ?rt3
   case hyt3=>(intro W2 hSw;(try dsimp only at hSw);go_simp;try with_reducible rfl)
   try simp only [Act.put,putL_a,putL_z,putL_s,putG_a,putG_s,putG_z]
   refine Ze (i:=3) rfl (by kernel_rfl) (fun K hK=>?_);(try rw [if_pos (by kernel_rfl)]);go_simp;refine (Zbj 1 1 wi.drew (by decide) (by decide) (by decide) (by decide)).mono ?_;rintro e w207 ⟨hby,yn,yA,yk,yc,ym,yB,yj,yd,rfl,yf⟩;replace qx:=Zb (Zd hby qx.out);replace hX:=Zb (hX.out.below hby);have hB208:=Zb (hB206.out.trans (hby.mono hB206.out.size));clear hB206;replace cc201:=Za hby cc201;replace cc202:=Za hby cc202;replace cc203:=Za hby cc203;replace cc204:=Za hby cc204;clear hby;rw [one_four.2.2.1] at yf;replace yf:=Zb yf;refine hK.out _ _ (fun _=>⟨cc201,cc202,cc203,cc204⟩) ?_;clear hK K
   try simp only [Act.put,putL_a,putL_z,putL_s,putG_a,putG_s,putG_z]
   refine Ze (i:=4) rfl (by kernel_rfl) (fun K hK=>?_);(try rw [if_pos (by kernel_rfl)]);go_simp;refine (Zh3 xn xm yn ym xA xB yA yB xk xc xj xd yk yc yj yd _ _ w207 hX.out yf.out true hs1.out).mono ?_;rintro e w209 ⟨rfl,hbS⟩;replace qx:=Zb (Zd hbS qx.out);replace hX:=Zb (hX.out.below hbS);replace yf:=Zb (yf.out.below hbS);have hB210:=Zb (hB208.out.trans (hbS.mono hB208.out.size));clear hB208;replace cc201:=Za hbS cc201;replace cc202:=Za hbS cc202;replace cc203:=Za hbS cc203;replace cc204:=Za hbS cc204;clear hbS;refine hK.out _ _ (fun _=>⟨cc201,cc202,cc203,cc204⟩) ?_;clear hK K
   try simp only [Act.put,putL_a,putL_z,putL_s,putG_a,putG_s,putG_z]
   refine Zc (i:=5) (v:=?vt4) rfl (by kernel_rfl) (by kernel_rfl) (by kernel_rfl) (by kernel_rfl) (by kernel_rfl) (Or.inl ⟨by kernel_rfl,?hyt4⟩) ⟨cc201,cc202,cc203,cc204⟩ ?rt4
   case hyt4=>(intro W2 hSw;(try dsimp only at hSw);go_simp;try with_reducible rfl)
   try simp only [Act.put,putL_a,putL_z,putL_s,putG_a,putG_s,putG_z]
   refine Zr (i:=6) (v:=?vt5) rfl (by kernel_rfl) (by kernel_rfl) (by kernel_rfl) (by kernel_rfl) (Or.inl ⟨by kernel_rfl,?hyt5⟩) (fun _=>⟨cc201,cc202,cc203,cc204⟩) ?rt5
   case hyt5=>(intro W2 _;go_simp;try with_reducible rfl)
   try simp only [Act.put,putL_a,putL_z,putL_s,putG_a,putG_s,putG_z]
   refine Zj (by kernel_rfl) ?_ _;refine OnlyNormal.normal ?_;clear cc201 cc202 cc203 cc204;go_wp2_with fail;go_ret;exact ⟨rfl,hB210.out⟩
  | succ t' =>
   obtain rfl : t' = 2 * N + 1 - (i + 1):=by omega
   have hi : i < 2 * N + 1:=by omega
   have t3 : decide ((i : Int) < 2 * (N : Int) + 1) = true:=decide_eq_true (by omega)
   have bi : (i : Int) < 2 * (N : Int) + 1:=by omega
   obtain ⟨j,hj⟩ : ∃ j : Nat,2 * N - i = j:=⟨_,rfl⟩
   have hjI : 2 * (N : Int) - (i : Int) = (j : Int):=by omega
   have bj : (j : Int) < 2 * (N : Int) + 1:=by omega
   have hjw : IntKind.i64.wrap (IntKind.i64.wrap (2 * (N : Int)) - (i : Int)) = (j : Int):=by rw [IntWalk.i64_in (2 * (N : Int)) (by omega),hjI,IntWalk.i64_in _ (by omega)]
   have hjl : j < 2 * N + 1:=by omega
   obtain ⟨an,aA,ak,ac,am,aB,aj,ad,⟨a0,a1,a2,a3⟩,hA⟩:=(hF0.out.below hBi.out).atS hi;obtain ⟨bn,bA,bk,bc,bm,bB,bj',bd,⟨b0,b1,b2,b3⟩,hBf⟩:=(hF0.out.below hBi.out).atS hjl;have hsame : Hid (decide ((Zca N)[i]?.getD 0 = (Zca N)[j]?.getD 0) = true):=Zb (decide_eq_true (by rw [<- hj,Zqv hN20 hi]))
   have han : an = false:=by rw [hA.1.1];exact decide_eq_false (by have:=wei_pos hN20 hi;omega)
   subst han;have hsA:=Zb (Zql hN20 hi);replace hj:=Zb hj;replace hA:=Zb hA;replace hBf:=Zb hBf;have hBB:=Zb (hB0.out.trans (hBi.out.mono hlw));clear hBB;go_wp2_with fail;have hr301 : Below wi.heap.size wi wi.drew:=Zh (Below.refl _ _) 1;replace qx:=Zb (Zd hr301 qx.out);replace hX:=Zb (hX.out.below hr301);replace hA:=Zb (hA.out.below hr301);replace hBf:=Zb (hBf.out.below hr301);have hB302:=Zb (hBi.out.trans (hr301.mono hBi.out.size));clear hBi;replace a0:=Za hr301 a0;replace a1:=Za hr301 a1;replace a2:=Za hr301 a2;replace a3:=Za hr301 a3;replace b0:=Za hr301 b0;replace b1:=Za hr301 b1;replace b2:=Za hr301 b2;replace b3:=Za hr301 b3;clear hr301;refine Z1 [] (fun wx=>(wx.cell? ⟨gw,ow + i * 4,none⟩ = some (.bool false)) /\ (wx.cell? ⟨gw,ow + i * 4 + 1,none⟩ = some (.slice aA ak ac)) /\ (wx.cell? ⟨gw,ow + i * 4 + 2,none⟩ = some (.bool am)) /\ (wx.cell? ⟨gw,ow + i * 4 + 3,none⟩ = some (.slice aB aj ad)) /\ (wx.cell? ⟨gw,ow + j * 4,none⟩ = some (.bool bn)) /\ (wx.cell? ⟨gw,ow + j * 4 + 1,none⟩ = some (.slice bA bk bc)) /\ (wx.cell? ⟨gw,ow + j * 4 + 2,none⟩ = some (.bool bm)) /\ (wx.cell? ⟨gw,ow + j * 4 + 3,none⟩ = some (.slice bB bj' bd))) hmx ⟨a0,a1,a2,a3,b0,b1,b2,b3⟩ (fun _=>?_);refine Zc (i:=0) (v:=?vt6) rfl (by kernel_rfl) (by kernel_rfl) (by kernel_rfl) (by kernel_rfl) (by kernel_rfl) (Or.inl ⟨by kernel_rfl,?hyt6⟩) ⟨a0,a1,a2,a3,b0,b1,b2,b3⟩ ?rt6
   case hyt6=>(intro W2 hSw;(try dsimp only at hSw);go_simp;try with_reducible rfl)
   try simp only [Act.put,putL_a,putL_z,putL_s,putG_a,putG_s,putG_z]
   refine Zc (i:=1) (v:=?vt7) rfl (by kernel_rfl) (by kernel_rfl) (by kernel_rfl) (by kernel_rfl) (by kernel_rfl) (Or.inl ⟨by kernel_rfl,?hyt7⟩) ⟨a0,a1,a2,a3,b0,b1,b2,b3⟩ ?rt7
   case hyt7=>(intro W2 hSw;(try dsimp only at hSw);go_simp;try with_reducible rfl)
   try simp only [Act.put,putL_a,putL_z,putL_s,putG_a,putG_s,putG_z]
   refine Zc (i:=2) (v:=?vt8) rfl (by kernel_rfl) (by kernel_rfl) (by kernel_rfl) (by kernel_rfl) (by kernel_rfl) (Or.inl ⟨by kernel_rfl,?hyt8⟩) ⟨a0,a1,a2,a3,b0,b1,b2,b3⟩ ?rt8
   case hyt8=>(intro W2 hSw;(try dsimp only at hSw);go_simp;try with_reducible rfl)
   try simp only [Act.put,putL_a,putL_z,putL_s,putG_a,putG_s,putG_z]
   refine Zc (i:=3) (v:=?vt9) rfl (by kernel_rfl) (by kernel_rfl) (by kernel_rfl) (by kernel_rfl) (by kernel_rfl) (Or.inl ⟨by kernel_rfl,?hyt9⟩) ⟨a0,a1,a2,a3,b0,b1,b2,b3⟩ ?rt9
   case hyt9=>(intro W2 hSw;(try dsimp only at hSw);go_simp;try with_reducible rfl)
   try simp only [Act.put,putL_a,putL_z,putL_s,putG_a,putG_s,putG_z]
   refine Ze (i:=4) rfl (by kernel_rfl) (fun K hK=>?_);(try rw [if_pos (by kernel_rfl)]);go_simp;refine (Zfo false am aA aB ak ac aj ad _ wi.drew hA.out).mono ?_;rintro e w303 ⟨rfl,hbC⟩;replace qx:=Zb (Zd hbC qx.out);replace hX:=Zb (hX.out.below hbC);replace hA:=Zb (hA.out.below hbC);replace hBf:=Zb (hBf.out.below hbC);have hB304:=Zb (hB302.out.trans (hbC.mono hB302.out.size));clear hB302;replace a0:=Za hbC a0;replace a1:=Za hbC a1;replace a2:=Za hbC a2;replace a3:=Za hbC a3;replace b0:=Za hbC b0;replace b1:=Za hbC b1;replace b2:=Za hbC b2;replace b3:=Za hbC b3;clear hbC;refine hK.out _ _ (fun _=>⟨a0,a1,a2,a3,b0,b1,b2,b3⟩) ?_;clear hK K
   try simp only [Act.put,putL_a,putL_z,putL_s,putG_a,putG_s,putG_z]
   refine Zc (i:=5) (v:=?vt10) rfl (by kernel_rfl) (by kernel_rfl) (by kernel_rfl) (by kernel_rfl) (by kernel_rfl) (Or.inl ⟨by kernel_rfl,?hyt10⟩) ⟨a0,a1,a2,a3,b0,b1,b2,b3⟩ ?rt10
   case hyt10=>(intro W2 hSw;(try dsimp only at hSw);go_simp;try with_reducible rfl)
   try simp only [Act.put,putL_a,putL_z,putL_s,putG_a,putG_s,putG_z]
   refine Zc (i:=6) (v:=?vt11) rfl (by kernel_rfl) (by kernel_rfl) (by kernel_rfl) (by kernel_rfl) (by kernel_rfl) (Or.inl ⟨by kernel_rfl,?hyt11⟩) ⟨a0,a1,a2,a3,b0,b1,b2,b3⟩ ?rt11
   case hyt11=>(intro W2 hSw;(try dsimp only at hSw);go_simp;try with_reducible rfl)
   try simp only [Act.put,putL_a,putL_z,putL_s,putG_a,putG_s,putG_z]
   refine Zc (i:=7) (v:=?vt12) rfl (by kernel_rfl) (by kernel_rfl) (by kernel_rfl) (by kernel_rfl) (by kernel_rfl) (Or.inl ⟨by kernel_rfl,?hyt12⟩) ⟨a0,a1,a2,a3,b0,b1,b2,b3⟩ ?rt12
   case hyt12=>(intro W2 hSw;(try dsimp only at hSw);go_simp;try with_reducible rfl)
   try simp only [Act.put,putL_a,putL_z,putL_s,putG_a,putG_s,putG_z]
   refine Zc (i:=8) (v:=?vt13) rfl (by kernel_rfl) (by kernel_rfl) (by kernel_rfl) (by kernel_rfl) (by kernel_rfl) (Or.inl ⟨by kernel_rfl,?hyt13⟩) ⟨a0,a1,a2,a3,b0,b1,b2,b3⟩ ?rt13
   case hyt13=>(intro W2 hSw;(try dsimp only at hSw);go_simp;try with_reducible rfl)
   try simp only [Act.put,putL_a,putL_z,putL_s,putG_a,putG_s,putG_z]
   refine Zc (i:=9) (v:=?vt14) rfl (by kernel_rfl) (by kernel_rfl) (by kernel_rfl) (by kernel_rfl) (by kernel_rfl) (Or.inl ⟨by kernel_rfl,?hyt14⟩) ⟨a0,a1,a2,a3,b0,b1,b2,b3⟩ ?rt14
   case hyt14=>(intro W2 hSw;(try dsimp only at hSw);go_simp;try with_reducible rfl)
   try simp only [Act.put,putL_a,putL_z,putL_s,putG_a,putG_s,putG_z]
   refine Zc (i:=10) (v:=?vt15) rfl (by kernel_rfl) (by kernel_rfl) (by kernel_rfl) (by kernel_rfl) (by kernel_rfl) (Or.inl ⟨by kernel_rfl,?hyt15⟩) ⟨a0,a1,a2,a3,b0,b1,b2,b3⟩ ?rt15
   case hyt15=>(intro W2 hSw;(try dsimp only at hSw);go_simp;try with_reducible rfl)
   try simp only [Act.put,putL_a,putL_z,putL_s,putG_a,putG_s,putG_z]
   refine Zc (i:=11) (v:=?vt16) rfl (by kernel_rfl) (by kernel_rfl) (by kernel_rfl) (by kernel_rfl) (by kernel_rfl) (Or.inl ⟨by kernel_rfl,?hyt16⟩) ⟨a0,a1,a2,a3,b0,b1,b2,b3⟩ ?rt16
   case hyt16=>(intro W2 hSw;(try dsimp only at hSw);go_simp;try with_reducible rfl)
   try simp only [Act.put,putL_a,putL_z,putL_s,putG_a,putG_s,putG_z]
   refine Zc (i:=12) (v:=?vt17) rfl (by kernel_rfl) (by kernel_rfl) (by kernel_rfl) (by kernel_rfl) (by kernel_rfl) (Or.inl ⟨by kernel_rfl,?hyt17⟩) ⟨a0,a1,a2,a3,b0,b1,b2,b3⟩ ?rt17
   case hyt17=>(intro W2 hSw;(try dsimp only at hSw);go_simp;try with_reducible rfl)
   try simp only [Act.put,putL_a,putL_z,putL_s,putG_a,putG_s,putG_z]
   refine Zc (i:=13) (v:=?vt18) rfl (by kernel_rfl) (by kernel_rfl) (by kernel_rfl) (by kernel_rfl) (by kernel_rfl) (Or.inl ⟨by kernel_rfl,?hyt18⟩) ⟨a0,a1,a2,a3,b0,b1,b2,b3⟩ ?rt18
   case hyt18=>(intro W2 hSw;(try dsimp only at hSw);go_simp;try with_reducible rfl)
   try simp only [Act.put,putL_a,putL_z,putL_s,putG_a,putG_s,putG_z]
   refine Zc (i:=14) (v:=?vt19) rfl (by kernel_rfl) (by kernel_rfl) (by kernel_rfl) (by kernel_rfl) (by kernel_rfl) (Or.inl ⟨by kernel_rfl,?hyt19⟩) ⟨a0,a1,a2,a3,b0,b1,b2,b3⟩ ?rt19
   case hyt19=>(intro W2 hSw;(try dsimp only at hSw);go_simp;try with_reducible rfl)
   try simp only [Act.put,putL_a,putL_z,putL_s,putG_a,putG_s,putG_z]
   refine Zc (i:=15) (v:=?vt20) rfl (by kernel_rfl) (by kernel_rfl) (by kernel_rfl) (by kernel_rfl) (by kernel_rfl) (Or.inl ⟨by kernel_rfl,?hyt20⟩) ⟨a0,a1,a2,a3,b0,b1,b2,b3⟩ ?rt20
   case hyt20=>(intro W2 hSw;(try dsimp only at hSw);go_simp;try with_reducible rfl)
   try simp only [Act.put,putL_a,putL_z,putL_s,putG_a,putG_s,putG_z]
   refine Zc (i:=16) (v:=?vt21) rfl (by kernel_rfl) (by kernel_rfl) (by kernel_rfl) (by kernel_rfl) (by kernel_rfl) (Or.inl ⟨by kernel_rfl,?hyt21⟩) ⟨a0,a1,a2,a3,b0,b1,b2,b3⟩ ?rt21
   case hyt21=>(intro W2 hSw;(try dsimp only at hSw);go_simp;try with_reducible rfl)
   try simp only [Act.put,putL_a,putL_z,putL_s,putG_a,putG_s,putG_z]
   refine Zc (i:=17) (v:=?vt22) rfl (by kernel_rfl) (by kernel_rfl) (by kernel_rfl) (by kernel_rfl) (by kernel_rfl) (Or.inl ⟨by kernel_rfl,?hyt22⟩) ⟨a0,a1,a2,a3,b0,b1,b2,b3⟩ ?rt22
   case hyt22=>(intro W2 hSw;(try dsimp only at hSw);go_simp;try with_reducible rfl)
   try simp only [Act.put,putL_a,putL_z,putL_s,putG_a,putG_s,putG_z]
   refine Zc (i:=18) (v:=?vt23) rfl (by kernel_rfl) (by kernel_rfl) (by kernel_rfl) (by kernel_rfl) (by kernel_rfl) (Or.inl ⟨by kernel_rfl,?hyt23⟩) ⟨a0,a1,a2,a3,b0,b1,b2,b3⟩ ?rt23
   case hyt23=>(intro W2 hSw;(try dsimp only at hSw);go_simp;try with_reducible rfl)
   try simp only [Act.put,putL_a,putL_z,putL_s,putG_a,putG_s,putG_z]
   refine Zc (i:=19) (v:=?vt24) rfl (by kernel_rfl) (by kernel_rfl) (by kernel_rfl) (by kernel_rfl) (by kernel_rfl) (Or.inl ⟨by kernel_rfl,?hyt24⟩) ⟨a0,a1,a2,a3,b0,b1,b2,b3⟩ ?rt24
   case hyt24=>(intro W2 hSw;(try dsimp only at hSw);go_simp;try with_reducible rfl)
   try simp only [Act.put,putL_a,putL_z,putL_s,putG_a,putG_s,putG_z]
   refine Zc (i:=20) (v:=?vt25) rfl (by kernel_rfl) (by kernel_rfl) (by kernel_rfl) (by kernel_rfl) (by kernel_rfl) (Or.inl ⟨by kernel_rfl,?hyt25⟩) ⟨a0,a1,a2,a3,b0,b1,b2,b3⟩ ?rt25
   case hyt25=>(intro W2 hSw;(try dsimp only at hSw);go_simp;try with_reducible rfl)
   try simp only [Act.put,putL_a,putL_z,putL_s,putG_a,putG_s,putG_z]
   refine Zc (i:=21) (v:=?vt26) rfl (by kernel_rfl) (by kernel_rfl) (by kernel_rfl) (by kernel_rfl) (by kernel_rfl) (Or.inl ⟨by kernel_rfl,?hyt26⟩) ⟨a0,a1,a2,a3,b0,b1,b2,b3⟩ ?rt26
   case hyt26=>(intro W2 hSw;(try dsimp only at hSw);go_simp;try with_reducible rfl)
   try simp only [Act.put,putL_a,putL_z,putL_s,putG_a,putG_s,putG_z]
   refine Zc (i:=22) (v:=?vt27) rfl (by kernel_rfl) (by kernel_rfl) (by kernel_rfl) (by kernel_rfl) (by kernel_rfl) (Or.inl ⟨by kernel_rfl,?hyt27⟩) ⟨a0,a1,a2,a3,b0,b1,b2,b3⟩ ?rt27
   case hyt27=>(intro W2 hSw;(try dsimp only at hSw);go_simp;try with_reducible rfl)
   try simp only [Act.put,putL_a,putL_z,putL_s,putG_a,putG_s,putG_z]
   refine Zc (i:=23) (v:=?vt28) rfl (by kernel_rfl) (by kernel_rfl) (by kernel_rfl) (by kernel_rfl) (by kernel_rfl) (Or.inl ⟨by kernel_rfl,?hyt28⟩) ⟨a0,a1,a2,a3,b0,b1,b2,b3⟩ ?rt28
   case hyt28=>(intro W2 hSw;(try dsimp only at hSw);go_simp;try with_reducible rfl)
   try simp only [Act.put,putL_a,putL_z,putL_s,putG_a,putG_s,putG_z]
   refine Zc (i:=24) (v:=?vt29) rfl (by kernel_rfl) (by kernel_rfl) (by kernel_rfl) (by kernel_rfl) (by kernel_rfl) (Or.inl ⟨by kernel_rfl,?hyt29⟩) ⟨a0,a1,a2,a3,b0,b1,b2,b3⟩ ?rt29
   case hyt29=>(intro W2 hSw;(try dsimp only at hSw);go_simp;try with_reducible rfl)
   try simp only [Act.put,putL_a,putL_z,putL_s,putG_a,putG_s,putG_z]
   refine Zc (i:=25) (v:=?vt30) rfl (by kernel_rfl) (by kernel_rfl) (by kernel_rfl) (by kernel_rfl) (by kernel_rfl) (Or.inl ⟨by kernel_rfl,?hyt30⟩) ⟨a0,a1,a2,a3,b0,b1,b2,b3⟩ ?rt30
   case hyt30=>(intro W2 hSw;(try dsimp only at hSw);go_simp;try with_reducible rfl)
   try simp only [Act.put,putL_a,putL_z,putL_s,putG_a,putG_s,putG_z]
   refine Ze (i:=26) rfl (by kernel_rfl) (fun K hK=>?_);(try rw [if_pos (by kernel_rfl)]);go_simp;refine (Zh3 false am bn bm aA aB bA bB ak ac aj ad bk bc bj' bd _ _ w303 hA.out hBf.out true hsame.out).mono ?_;rintro e w305 ⟨rfl,hbS⟩;replace qx:=Zb (Zd hbS qx.out);replace hX:=Zb (hX.out.below hbS);replace hA:=Zb (hA.out.below hbS);replace hBf:=Zb (hBf.out.below hbS);have hB306:=Zb (hB304.out.trans (hbS.mono hB304.out.size));clear hB304;replace a0:=Za hbS a0;replace a1:=Za hbS a1;replace a2:=Za hbS a2;replace a3:=Za hbS a3;replace b0:=Za hbS b0;replace b1:=Za hbS b1;replace b2:=Za hbS b2;replace b3:=Za hbS b3;clear hbS;refine hK.out _ _ (fun _=>⟨a0,a1,a2,a3,b0,b1,b2,b3⟩) ?_;clear hK K
   try simp only [Act.put,putL_a,putL_z,putL_s,putG_a,putG_s,putG_z]
   refine Zc (i:=27) (v:=?vt31) rfl (by kernel_rfl) (by kernel_rfl) (by kernel_rfl) (by kernel_rfl) (by kernel_rfl) (Or.inl ⟨by kernel_rfl,?hyt31⟩) ⟨a0,a1,a2,a3,b0,b1,b2,b3⟩ ?rt31
   case hyt31=>(intro W2 hSw;(try dsimp only at hSw);go_simp;try with_reducible rfl)
   try simp only [Act.put,putL_a,putL_z,putL_s,putG_a,putG_s,putG_z]
   refine Zc (i:=28) (v:=?vt32) rfl (by kernel_rfl) (by kernel_rfl) (by kernel_rfl) (by kernel_rfl) (by kernel_rfl) (Or.inl ⟨by kernel_rfl,?hyt32⟩) ⟨a0,a1,a2,a3,b0,b1,b2,b3⟩ ?rt32
   case hyt32=>(intro W2 hSw;(try dsimp only at hSw);go_simp;try with_reducible rfl)
   try simp only [Act.put,putL_a,putL_z,putL_s,putG_a,putG_s,putG_z]
   refine Zj (by kernel_rfl) ?_ _;refine OnlyNormal.normal ?_;clear a0 a1 a2 a3 b0 b1 b2 b3;clear hA hBf;clear hjw hjI hsame bj hjl hj;go_wp2_with fail;obtain ⟨an2,aA,ak,ac,am,aB,aj,ad,⟨a0,a1,a2,a3⟩,hA⟩:=(hF0.out.below hB306.out).atS hi;replace hA:=Zb hA;have cc307 : w305.cell? ⟨g7,0,none⟩ = some (.bool xn):=qx.out.cell 0;have cc308 : w305.cell? ⟨g7,1,none⟩ = some (.slice xA xk xc):=qx.out.cell 1;have cc309 : w305.cell? ⟨g7,2,none⟩ = some (.bool xm):=qx.out.cell 2;have cc310 : w305.cell? ⟨g7,3,none⟩ = some (.slice xB xj xd):=qx.out.cell 3;have hsS:=Zb (sumW_sm hN20 (show i <= 2 * N + 1 by omega));have hr311 : Below w305.heap.size w305 w305.drew:=Zh (Below.refl _ _) 1;replace qx:=Zb (Zd hr311 qx.out);replace hX:=Zb (hX.out.below hr311);replace hA:=Zb (hA.out.below hr311);have hB312:=Zb (hB306.out.trans (hr311.mono hB306.out.size));clear hB306;replace a0:=Za hr311 a0;replace a1:=Za hr311 a1;replace a2:=Za hr311 a2;replace a3:=Za hr311 a3;replace cc307:=Za hr311 cc307;replace cc308:=Za hr311 cc308;replace cc309:=Za hr311 cc309;replace cc310:=Za hr311 cc310;clear hr311
   refine Z1 [9] (fun wx=>(wx.cell? ⟨gw,ow + i * 4,none⟩ = some (.bool an2)) /\ (wx.cell? ⟨gw,ow + i * 4 + 1,none⟩ = some (.slice aA ak ac)) /\ (wx.cell? ⟨gw,ow + i * 4 + 2,none⟩ = some (.bool am)) /\ (wx.cell? ⟨gw,ow + i * 4 + 3,none⟩ = some (.slice aB aj ad)) /\ (wx.cell? ⟨g7,0,none⟩ = some (.bool xn)) /\ (wx.cell? ⟨g7,1,none⟩ = some (.slice xA xk xc)) /\ (wx.cell? ⟨g7,2,none⟩ = some (.bool xm)) /\ (wx.cell? ⟨g7,3,none⟩ = some (.slice xB xj xd))) hmx ⟨a0,a1,a2,a3,cc307,cc308,cc309,cc310⟩ (fun _=>?_);refine Zc (i:=0) (v:=?vt33) rfl (by kernel_rfl) (by kernel_rfl) (by kernel_rfl) (by kernel_rfl) (by kernel_rfl) (Or.inl ⟨by kernel_rfl,?hyt33⟩) ⟨a0,a1,a2,a3,cc307,cc308,cc309,cc310⟩ ?rt33
   case hyt33=>(intro W2 hSw;(try dsimp only at hSw);go_simp;try with_reducible rfl)
   try simp only [Act.put,putL_a,putL_z,putL_s,putG_a,putG_s,putG_z]
   refine Zc (i:=1) (v:=?vt34) rfl (by kernel_rfl) (by kernel_rfl) (by kernel_rfl) (by kernel_rfl) (by kernel_rfl) (Or.inl ⟨by kernel_rfl,?hyt34⟩) ⟨a0,a1,a2,a3,cc307,cc308,cc309,cc310⟩ ?rt34
   case hyt34=>(intro W2 hSw;(try dsimp only at hSw);go_simp;try with_reducible rfl)
   try simp only [Act.put,putL_a,putL_z,putL_s,putG_a,putG_s,putG_z]
   refine Zc (i:=2) (v:=?vt35) rfl (by kernel_rfl) (by kernel_rfl) (by kernel_rfl) (by kernel_rfl) (by kernel_rfl) (Or.inl ⟨by kernel_rfl,?hyt35⟩) ⟨a0,a1,a2,a3,cc307,cc308,cc309,cc310⟩ ?rt35
   case hyt35=>(intro W2 hSw;(try dsimp only at hSw);go_simp;try with_reducible rfl)
   try simp only [Act.put,putL_a,putL_z,putL_s,putG_a,putG_s,putG_z]
   refine Zc (i:=3) (v:=?vt36) rfl (by kernel_rfl) (by kernel_rfl) (by kernel_rfl) (by kernel_rfl) (by kernel_rfl) (Or.inl ⟨by kernel_rfl,?hyt36⟩) ⟨a0,a1,a2,a3,cc307,cc308,cc309,cc310⟩ ?rt36
   case hyt36=>(intro W2 hSw;(try dsimp only at hSw);go_simp;try with_reducible rfl)
   try simp only [Act.put,putL_a,putL_z,putL_s,putG_a,putG_s,putG_z]
   refine Zc (i:=4) (v:=?vt37) rfl (by kernel_rfl) (by kernel_rfl) (by kernel_rfl) (by kernel_rfl) (by kernel_rfl) (Or.inl ⟨by kernel_rfl,?hyt37⟩) ⟨a0,a1,a2,a3,cc307,cc308,cc309,cc310⟩ ?rt37
   case hyt37=>(intro W2 hSw;(try dsimp only at hSw);go_simp;try with_reducible rfl)
   try simp only [Act.put,putL_a,putL_z,putL_s,putG_a,putG_s,putG_z]
   refine Ze (i:=5) rfl (by kernel_rfl) (fun K hK=>?_);(try rw [if_pos (by kernel_rfl)]);go_simp;refine (Zq4 xn xm an2 am xA xB aA aB xk xc xj xd ak ac aj ad _ _ w305.drew hX.out hA.out hsS.out hsA.out).mono ?_;rintro e w313 ⟨hbP,pn,pA,pk,pc,pm,pB,pj,pd,rfl,pf⟩;replace qx:=Zb (Zd hbP qx.out);replace hX:=Zb (hX.out.below hbP);replace hA:=Zb (hA.out.below hbP);have hB314:=Zb (hB312.out.trans (hbP.mono hB312.out.size));clear hB312;replace a0:=Za hbP a0;replace a1:=Za hbP a1;replace a2:=Za hbP a2;replace a3:=Za hbP a3;replace cc307:=Za hbP cc307;replace cc308:=Za hbP cc308;replace cc309:=Za hbP cc309;replace cc310:=Za hbP cc310;clear hbP;replace pf:=Zb pf;refine hK.out _ _ (fun _=>⟨a0,a1,a2,a3,cc307,cc308,cc309,cc310⟩) ?_;clear hK K
   try simp only [Act.put,putL_a,putL_z,putL_s,putG_a,putG_s,putG_z]
   refine Zc (i:=6) (v:=?vt38) rfl (by kernel_rfl) (by kernel_rfl) (by kernel_rfl) (by kernel_rfl) (by kernel_rfl) (Or.inl ⟨by kernel_rfl,?hyt38⟩) ⟨a0,a1,a2,a3,cc307,cc308,cc309,cc310⟩ ?rt38
   case hyt38=>(intro W2 hSw;(try dsimp only at hSw);go_simp;try with_reducible rfl)
   try simp only [Act.put,putL_a,putL_z,putL_s,putG_a,putG_s,putG_z]
   refine Zc (i:=7) (v:=?vt39) rfl (by kernel_rfl) (by kernel_rfl) (by kernel_rfl) (by kernel_rfl) (by kernel_rfl) (Or.inl ⟨by kernel_rfl,?hyt39⟩) ⟨a0,a1,a2,a3,cc307,cc308,cc309,cc310⟩ ?rt39
   case hyt39=>(intro W2 hSw;(try dsimp only at hSw);go_simp;try with_reducible rfl)
   try simp only [Act.put,putL_a,putL_z,putL_s,putG_a,putG_s,putG_z]
   refine Zr (i:=8) (v:=?vt40) rfl (by kernel_rfl) (by kernel_rfl) (by kernel_rfl) (by kernel_rfl) (Or.inl ⟨by kernel_rfl,?hyt40⟩) (fun _=>⟨a0,a1,a2,a3,cc307,cc308,cc309,cc310⟩) ?rt40
   case hyt40=>(intro W2 _;go_simp;try with_reducible rfl)
   try simp only [Act.put,putL_a,putL_z,putL_s,putG_a,putG_s,putG_z]
   obtain ⟨fz0,fz1,fz2,fz3⟩ : w313.frozen? ⟨g7,0,none⟩ = false /\ w313.frozen? ⟨g7,1,none⟩ = false /\ w313.frozen? ⟨g7,2,none⟩ = false /\ w313.frozen? ⟨g7,3,none⟩ = false:=⟨qx.out.frozen 0,qx.out.frozen 1,qx.out.frozen 2,qx.out.frozen 3⟩;obtain ⟨W315,hW316,hBn317,qn318,kW319,kB320,sz321⟩:=Zag pn pA pk pc pm pB pj pd hB314.out (Nat.le_of_eq hgi.out) qx.out;refine Zt (i:=9) rfl (by kernel_rfl) (by kernel_rfl) (fun K hK=>?_);go_simp;(try rw [hW316]);refine hK.out _ _ ?_;clear hK K
   try simp only [Act.put,putL_a,putL_z,putL_s,putG_a,putG_s,putG_z]
   have pf5 : Hid (Fr W315 pn pA pk pc pm pB pj pd (Zij N (i + 1))):=Zb (by
    rw [Zpt hi]
    exact ⟨kW319 _ _ _ _ _ pf.out.1,kW319 _ _ _ _ _ pf.out.2⟩)
   replace hBn317:=Zb hBn317;replace qn318:=Zb qn318;clear hW316 kW319 kB320 sz321 fz0 fz1 fz2 fz3 pf qx hX hA hB314;refine Zj (by kernel_rfl) ?_ _;refine OnlyNormal.normal ?_;clear a0 a1 a2 a3 cc307 cc308 cc309 cc310;have hrel' : True:=trivial
   by_cases hc : 0 < i /\ i <= N
   case neg =>
    by_cases h0 : 0 < i
    ·have t5 : decide ((0 : Int) < (i : Int)) = true:=decide_eq_true (by omega)
     have t5' : decide (0 < i) = true:=decide_eq_true h0;have t6 : decide ((i : Int) <= (N : Int)) = false:=decide_eq_false (by omega);have t6' : decide (i <= N) = false:=decide_eq_false (by omega);clear hc h0;go_wp2_with fail
     go_roundg (2 * N + 1 - (i + 1))
     case measure=>omega
     case rel=>exact ⟨i + 1,_,_,_,_,_,_,_,_,by omega,by go_num,hBn317,qn318,pf5⟩
    ·have t5 : decide ((0 : Int) < (i : Int)) = false:=decide_eq_false (by omega)
     have t5' : decide (0 < i) = false:=decide_eq_false h0;clear hc h0;go_wp2_with fail
     go_roundg (2 * N + 1 - (i + 1))
     case measure=>omega
     case rel=>exact ⟨i + 1,_,_,_,_,_,_,_,_,by omega,by go_num,hBn317,qn318,pf5⟩
   obtain ⟨i2,hi2⟩ : ∃ k : Nat,i - 1 = k:=⟨_,rfl⟩;have t5 : decide ((0 : Int) < (i : Int)) = true:=decide_eq_true (by omega);have t5' : decide (0 < i) = true:=decide_eq_true hc.1;have t6 : decide ((i : Int) <= (N : Int)) = true:=decide_eq_true (by omega);have t6' : decide (i <= N) = true:=decide_eq_true hc.2;have hiw : IntKind.i64.wrap (i2 : Int) = (i2 : Int):=IntWalk.i64_in _ (by omega)
   have hiw2 : (i : Int) - 1 = (i2 : Int):=by omega
   have bi2 : (i2 : Int) < 2 * (N : Int) + 1:=by omega
   have bi0 : (0 : Int) <= (i : Int) - 1:=by omega
   have hcmp : Hid ((Zca N)[i2]?.getD 0 <= (Zca N)[i]?.getD 0):=Zb (by rw [<- hi2];exact wei_up hN20 hc.1 hc.2);have hsB:=Zb (Zql hN20 (show i2 < 2 * N + 1 by omega))
   have hi2l : i2 < 2 * N + 1:=by omega
   clear hc;replace hi2:=Zb hi2;obtain ⟨an3,aA,ak,ac,am,aB,aj,ad,⟨a0,a1,a2,a3⟩,hA⟩:=(hF0.out.below hBn317.out).atS hi;obtain ⟨bn,bA,bk,bc,bm,bB,bj',bd,⟨b0,b1,b2,b3⟩,hBf⟩:=(hF0.out.below hBn317.out).atS hi2l;replace hA:=Zb hA;replace hBf:=Zb hBf;go_wp2_with fail;have hr322 : Below W315.heap.size W315 W315.drew:=Zh (Below.refl _ _) 1;replace qn318:=Zb (Zd hr322 qn318.out);replace pf5:=Zb (pf5.out.below hr322);replace hA:=Zb (hA.out.below hr322);replace hBf:=Zb (hBf.out.below hr322);have hB323:=Zb (hBn317.out.trans (hr322.mono hBn317.out.size));clear hBn317;replace a0:=Za hr322 a0;replace a1:=Za hr322 a1;replace a2:=Za hr322 a2;replace a3:=Za hr322 a3;replace b0:=Za hr322 b0;replace b1:=Za hr322 b1;replace b2:=Za hr322 b2;replace b3:=Za hr322 b3;clear hr322;refine Z1 [] (fun wx=>(wx.cell? ⟨gw,ow + i * 4,none⟩ = some (.bool an3)) /\ (wx.cell? ⟨gw,ow + i * 4 + 1,none⟩ = some (.slice aA ak ac)) /\ (wx.cell? ⟨gw,ow + i * 4 + 2,none⟩ = some (.bool am)) /\ (wx.cell? ⟨gw,ow + i * 4 + 3,none⟩ = some (.slice aB aj ad)) /\ (wx.cell? ⟨gw,ow + i2 * 4,none⟩ = some (.bool bn)) /\ (wx.cell? ⟨gw,ow + i2 * 4 + 1,none⟩ = some (.slice bA bk bc)) /\ (wx.cell? ⟨gw,ow + i2 * 4 + 2,none⟩ = some (.bool bm)) /\ (wx.cell? ⟨gw,ow + i2 * 4 + 3,none⟩ = some (.slice bB bj' bd))) hmx ⟨a0,a1,a2,a3,b0,b1,b2,b3⟩ (fun _=>?_);refine Zc (i:=0) (v:=?vt41) rfl (by kernel_rfl) (by kernel_rfl) (by kernel_rfl) (by kernel_rfl) (by kernel_rfl) (Or.inl ⟨by kernel_rfl,?hyt41⟩) ⟨a0,a1,a2,a3,b0,b1,b2,b3⟩ ?rt41
   case hyt41=>(intro W2 hSw;(try dsimp only at hSw);go_simp;try with_reducible rfl)
   try simp only [Act.put,putL_a,putL_z,putL_s,putG_a,putG_s,putG_z]
   refine Zc (i:=1) (v:=?vt42) rfl (by kernel_rfl) (by kernel_rfl) (by kernel_rfl) (by kernel_rfl) (by kernel_rfl) (Or.inl ⟨by kernel_rfl,?hyt42⟩) ⟨a0,a1,a2,a3,b0,b1,b2,b3⟩ ?rt42
   case hyt42=>(intro W2 hSw;(try dsimp only at hSw);go_simp;try with_reducible rfl)
   try simp only [Act.put,putL_a,putL_z,putL_s,putG_a,putG_s,putG_z]
   refine Zc (i:=2) (v:=?vt43) rfl (by kernel_rfl) (by kernel_rfl) (by kernel_rfl) (by kernel_rfl) (by kernel_rfl) (Or.inl ⟨by kernel_rfl,?hyt43⟩) ⟨a0,a1,a2,a3,b0,b1,b2,b3⟩ ?rt43
   case hyt43=>(intro W2 hSw;(try dsimp only at hSw);go_simp;try with_reducible rfl)
   try simp only [Act.put,putL_a,putL_z,putL_s,putG_a,putG_s,putG_z]
   refine Zc (i:=3) (v:=?vt44) rfl (by kernel_rfl) (by kernel_rfl) (by kernel_rfl) (by kernel_rfl) (by kernel_rfl) (Or.inl ⟨by kernel_rfl,?hyt44⟩) ⟨a0,a1,a2,a3,b0,b1,b2,b3⟩ ?rt44
   case hyt44=>(intro W2 hSw;(try dsimp only at hSw);go_simp;try with_reducible rfl)
   try simp only [Act.put,putL_a,putL_z,putL_s,putG_a,putG_s,putG_z]
   refine Zc (i:=4) (v:=?vt45) rfl (by kernel_rfl) (by kernel_rfl) (by kernel_rfl) (by kernel_rfl) (by kernel_rfl) (Or.inl ⟨by kernel_rfl,?hyt45⟩) ⟨a0,a1,a2,a3,b0,b1,b2,b3⟩ ?rt45
   case hyt45=>(intro W2 hSw;(try dsimp only at hSw);go_simp;try with_reducible rfl)
   try simp only [Act.put,putL_a,putL_z,putL_s,putG_a,putG_s,putG_z]
   refine Zc (i:=5) (v:=?vt46) rfl (by kernel_rfl) (by kernel_rfl) (by kernel_rfl) (by kernel_rfl) (by kernel_rfl) (Or.inl ⟨by kernel_rfl,?hyt46⟩) ⟨a0,a1,a2,a3,b0,b1,b2,b3⟩ ?rt46
   case hyt46=>(intro W2 hSw;(try dsimp only at hSw);go_simp;try with_reducible rfl)
   try simp only [Act.put,putL_a,putL_z,putL_s,putG_a,putG_s,putG_z]
   refine Zc (i:=6) (v:=?vt47) rfl (by kernel_rfl) (by kernel_rfl) (by kernel_rfl) (by kernel_rfl) (by kernel_rfl) (Or.inl ⟨by kernel_rfl,?hyt47⟩) ⟨a0,a1,a2,a3,b0,b1,b2,b3⟩ ?rt47
   case hyt47=>(intro W2 hSw;(try dsimp only at hSw);go_simp;try with_reducible rfl)
   try simp only [Act.put,putL_a,putL_z,putL_s,putG_a,putG_s,putG_z]
   refine Zc (i:=7) (v:=?vt48) rfl (by kernel_rfl) (by kernel_rfl) (by kernel_rfl) (by kernel_rfl) (by kernel_rfl) (Or.inl ⟨by kernel_rfl,?hyt48⟩) ⟨a0,a1,a2,a3,b0,b1,b2,b3⟩ ?rt48
   case hyt48=>(intro W2 hSw;(try dsimp only at hSw);go_simp;try with_reducible rfl)
   try simp only [Act.put,putL_a,putL_z,putL_s,putG_a,putG_s,putG_z]
   refine Zc (i:=8) (v:=?vt49) rfl (by kernel_rfl) (by kernel_rfl) (by kernel_rfl) (by kernel_rfl) (by kernel_rfl) (Or.inl ⟨by kernel_rfl,?hyt49⟩) ⟨a0,a1,a2,a3,b0,b1,b2,b3⟩ ?rt49
   case hyt49=>(intro W2 hSw;(try dsimp only at hSw);go_simp;try with_reducible rfl)
   try simp only [Act.put,putL_a,putL_z,putL_s,putG_a,putG_s,putG_z]
   refine Ze (i:=9) rfl (by kernel_rfl) (fun K hK=>?_);(try rw [if_pos (by kernel_rfl)]);go_simp;refine (Zri bn bm an3 am bA bB aA aB bk bc bj' bd ak ac aj ad _ _ W315.drew hBf.out hA.out hsB.out hsA.out).mono ?_;rintro e w324 ⟨rfl,hbC⟩;replace qn318:=Zb (Zd hbC qn318.out);replace pf5:=Zb (pf5.out.below hbC);replace hA:=Zb (hA.out.below hbC);replace hBf:=Zb (hBf.out.below hbC);have hB325:=Zb (hB323.out.trans (hbC.mono hB323.out.size));clear hB323;replace a0:=Za hbC a0;replace a1:=Za hbC a1;replace a2:=Za hbC a2;replace a3:=Za hbC a3;replace b0:=Za hbC b0;replace b1:=Za hbC b1;replace b2:=Za hbC b2;replace b3:=Za hbC b3;clear hbC;obtain ⟨E,hE⟩ : ∃ E,Zg8 ((Zca N)[i2]?.getD 0) ((Zca N)[i]?.getD 0) = E:=⟨_,rfl⟩;rw [hE]
   have tE : decide (0 < E) = false:=decide_eq_false (by
    rcases cmpQ_le hcmp.out with h | h <;> rw [hE] at h <;> omega)
   replace hE:=Zb hE;refine hK.out _ _ (fun _=>⟨a0,a1,a2,a3,b0,b1,b2,b3⟩) ?_;clear hK K
   try simp only [Act.put,putL_a,putL_z,putL_s,putG_a,putG_s,putG_z]
   refine Zc (i:=10) (v:=?vt50) rfl (by kernel_rfl) (by kernel_rfl) (by kernel_rfl) (by kernel_rfl) (by kernel_rfl) (Or.inl ⟨by kernel_rfl,?hyt50⟩) ⟨a0,a1,a2,a3,b0,b1,b2,b3⟩ ?rt50
   case hyt50=>(intro W2 hSw;(try dsimp only at hSw);go_simp;try with_reducible rfl)
   try simp only [Act.put,putL_a,putL_z,putL_s,putG_a,putG_s,putG_z]
   refine Zc (i:=11) (v:=?vt51) rfl (by kernel_rfl) (by kernel_rfl) (by kernel_rfl) (by kernel_rfl) (by kernel_rfl) (Or.inl ⟨by kernel_rfl,?hyt51⟩) ⟨a0,a1,a2,a3,b0,b1,b2,b3⟩ ?rt51
   case hyt51=>(intro W2 hSw;(try dsimp only at hSw);go_simp;try with_reducible rfl)
   try simp only [Act.put,putL_a,putL_z,putL_s,putG_a,putG_s,putG_z]
   refine Zc (i:=12) (v:=?vt52) rfl (by kernel_rfl) (by kernel_rfl) (by kernel_rfl) (by kernel_rfl) (by kernel_rfl) (Or.inl ⟨by kernel_rfl,?hyt52⟩) ⟨a0,a1,a2,a3,b0,b1,b2,b3⟩ ?rt52
   case hyt52=>(intro W2 hSw;(try dsimp only at hSw);go_simp;try with_reducible rfl)
   try simp only [Act.put,putL_a,putL_z,putL_s,putG_a,putG_s,putG_z]
   refine Zr (i:=13) (v:=?vt53) rfl (by kernel_rfl) (by kernel_rfl) (by kernel_rfl) (by kernel_rfl) (Or.inl ⟨by kernel_rfl,?hyt53⟩) (fun _=>⟨a0,a1,a2,a3,b0,b1,b2,b3⟩) ?rt53
   case hyt53=>(intro W2 _;go_simp;try with_reducible rfl)
   try simp only [Act.put,putL_a,putL_z,putL_s,putG_a,putG_s,putG_z]
   refine Zr (i:=14) (v:=?vt54) rfl (by kernel_rfl) (by kernel_rfl) (by kernel_rfl) (by kernel_rfl) (Or.inl ⟨by kernel_rfl,?hyt54⟩) (fun _=>⟨a0,a1,a2,a3,b0,b1,b2,b3⟩) ?rt54
   case hyt54=>(intro W2 _;go_simp;try with_reducible rfl)
   try simp only [Act.put,putL_a,putL_z,putL_s,putG_a,putG_s,putG_z]
   refine Zj (by kernel_rfl) ?_ _;refine OnlyNormal.normal ?_;clear a0 a1 a2 a3 b0 b1 b2 b3;clear hiw hiw2 bi2 bi0;go_wp2_with fail
   go_roundg (2 * N + 1 - (i + 1))
   case measure=>omega
   case rel=>exact ⟨i + 1,_,_,_,_,_,_,_,_,by omega,by go_num,hB325,qn318,pf5⟩
open Go.ChangeShapes Go.WideShapes Go.Deep Go.RowKit
theorem Zom {z : Int} (h : (Lit.int .u32 z).wf = true) : 0 <= z /\ z <= 4294967295:=by
 simp only [Lit.wf,Bool.and_eq_true,decide_eq_true_eq] at h;exact h
section
variable {H : Type} {enc : TypeId × Value -> H} {w : World} {base : Nat} {spare : Nat -> Bool} {held : Bool}
theorem Zoz {fuel : Nat} {cs : List Value} {x : DataW H × List MemPlace} (h : DataW.trod enc Tryz.prog w base spare held fuel 25 cs = some x) : ∃ (A : Option Addr) (n c : Nat) (l : List Nat),cs = [.slice A n c] /\ Lim w A n c l:=by
 rcases open_ints Tryz.underlying25 Tryz.underlying154 (by kernel_rfl) h with ⟨rfl,_⟩ | ⟨a,len,cap,zs,rfl,_,hl,hm,hz,_,hcell,hwf⟩
 ·exact ⟨none,0,0,[],rfl,Lim.nil _ _ _ (Nat.zero_le _)⟩
 ·have hlz : len <= zs.length:=by rw [hz];split <;> omega
  refine ⟨some a,len,cap,(zs.take len).map Int.toNat,rfl,by simp;omega,hl,hm,fun v hv=>?_,fun hn=>?_⟩
  ·obtain ⟨z,hz1,rfl⟩:=List.mem_map.1 hv
   have:=Zom (hwf z (List.mem_of_mem_take hz1));omega
  ·have h0:=hcell 0 (by omega)
   have hp:=Zff h0
   obtain ⟨b,o,s⟩ : ∃ b o,a = ⟨b,o,none⟩:=by
    obtain ⟨b,o,s⟩:=a;refine ⟨b,o,?_⟩;unfold Addr.add at hp
    split at hp <;> simp_all
   subst s;refine ⟨b,o,rfl,fun k hk=>?_⟩;have hc:=hcell k (by omega);rw [Zg] at hc;rw [hc]
   have hkz : k < zs.length:=by omega
   have hw:=Zom (hwf zs[k] (List.getElem_mem hkz));rw [List.getElem?_map,List.getElem?_take,if_pos hk,List.getElem?_eq_getElem hkz,List.getD_eq_getElem?_getD,List.getElem?_eq_getElem hkz]
   simp [limb]
   omega
theorem Zhn {fuel : Nat} {cs : List Value} {x : DataW H × List MemPlace} (h : DataW.trod enc Tryz.prog w base spare held fuel 27 cs = some x) : ∃ (na : Bool) (A : Option Addr) (n c : Nat) (l : List Nat),cs = [.bool na,.slice A n c] /\ Lim w A n c l:=by
 obtain ⟨xs,n',_,_,hl,hxl,hfl⟩:=DataW.trod_struct Tryz.underlying27 h
 have c2 : Tryz.prog.cellsOf 27 = 2:=by kernel_rfl
 have c0 : Tryz.prog.cellsOf 4 = 1:=by kernel_rfl
 have c1 : Tryz.prog.cellsOf 25 = 1:=by kernel_rfl
 rw [c2] at hl
 obtain ⟨x,y,rfl⟩ : ∃ x y,cs = [x,y]:=by
  match cs,hl with
  | [x,y],_=>exact ⟨x,y,rfl⟩
 have f0:=hfl 0 _ rfl;have f1:=hfl 1 _ rfl;simp only [List.getElem_toArray,List.getElem_cons_zero,List.getElem_cons_succ] at f0 f1;rw [c0] at f0;rw [c1] at f1;have g0 : xs[0]? = some (xs[0]'(by rw [hxl];decide)):=List.getElem?_eq_getElem _;have g1 : xs[1]? = some (xs[1]'(by rw [hxl];decide)):=List.getElem?_eq_getElem _;rw [g0] at f0;rw [g1] at f1;obtain ⟨b,e0,_⟩:=DataW.trod_bool Tryz.underlying4 f0;obtain ⟨A,n,c,l,e1,hL⟩:=Zoz f1
 simp at e0 e1
 subst e0 e1;exact ⟨b,A,n,c,l,rfl,hL⟩
theorem Zm4 {fuel : Nat} {cs : List Value} {x : DataW H × List MemPlace} (h : DataW.trod enc Tryz.prog w base spare held fuel 29 cs = some x) :
    ∃ (na nb : Bool) (A B : Option Addr) (n c m d : Nat) (la lb : List Nat),cs = [.bool na,.slice A n c,.bool nb,.slice B m d] /\ Lim w A n c la /\ Lim w B m d lb:=by
 obtain ⟨xs,n',_,_,hl,hxl,hfl⟩:=DataW.trod_struct Tryz.underlying29 h
 have c4 : Tryz.prog.cellsOf 29 = 4:=by kernel_rfl
 have c2 : Tryz.prog.cellsOf 27 = 2:=by kernel_rfl
 rw [c4] at hl
 obtain ⟨x,y,z,u,rfl⟩ : ∃ x y z u,cs = [x,y,z,u]:=by
  match cs,hl with
  | [x,y,z,u],_=>exact ⟨x,y,z,u,rfl⟩
 have f0:=hfl 0 _ rfl;have f1:=hfl 1 _ rfl;simp only [List.getElem_toArray,List.getElem_cons_zero,List.getElem_cons_succ] at f0 f1;rw [c2] at f0 f1;have g0 : xs[0]? = some (xs[0]'(by rw [hxl];decide)):=List.getElem?_eq_getElem _;have g1 : xs[1]? = some (xs[1]'(by rw [hxl];decide)):=List.getElem?_eq_getElem _;rw [g0] at f0;rw [g1] at f1;obtain ⟨na,A,n,c,la,e0,h0⟩:=Zhn f0;obtain ⟨nb,B,m,d,lb,e1,h1⟩:=Zhn f1
 simp at e0 e1
 obtain ⟨rfl,rfl⟩:=e0;obtain ⟨rfl,rfl⟩:=e1;exact ⟨na,nb,A,B,n,c,m,d,la,lb,rfl,h0,h1⟩
end
section
variable {H : Type} {enc : TypeId × Value -> H} {w : World} {base : Nat} {spare : Nat -> Bool} {held : Bool}
theorem Zmu {fuel : Nat} {cs : List Value} {x : DataW H × List MemPlace} (h : DataW.trod enc Tryz.prog w base spare held fuel 23 cs = some x) : ∃ (A : Option Addr) (n c : Nat) (es : List FX),cs = [.slice A n c] /\ FXL w A n c es:=by
 have c4 : Tryz.prog.cellsOf 29 = 4:=by kernel_rfl
 rcases open_slice Tryz.underlying23 h with ⟨hcs,_⟩ | ⟨a,n,c,m,f,D,Pl,hcs,_,hl,hm,hmm,_,hi⟩
 ·exact ⟨none,0,0,[],hcs,rfl,Nat.le_refl _,Nat.zero_le _,fun e he=>(by cases he),fun h=>absurd h (by omega)⟩
 ·have hlm : n <= m:=by rw [hmm];split <;> omega
  rw [c4] at hi
  obtain ⟨es,he1,he2⟩:=Zkg (fun i (e : FX)=>w.cell? (a.add (i * 4 + 0)) = some (.bool e.na) /\ w.cell? (a.add (i * 4 + 1)) = some (.slice e.A e.n e.c) /\ w.cell? (a.add (i * 4 + 2)) = some (.bool e.nb) /\ w.cell? (a.add (i * 4 + 3)) = some (.slice e.B e.m e.d) /\ e.in_ w) n (fun i hin=>by
   obtain ⟨cs',hc,ht⟩:=hi i (by omega);obtain ⟨na,nb,A,B,n1,c1,m1,d1,la,lb,rfl,h1,h2⟩:=Zm4 ht;obtain ⟨_,_,hat⟩:=World.cells?_some hc;have g0:=hat 0 (by simp);have g1:=hat 1 (by simp);have g2:=hat 2 (by simp);have g3:=hat 3 (by simp);rw [Go.Deep.add_add] at g0 g1 g2 g3
   exact ⟨⟨na,A,n1,c1,la,nb,B,m1,d1,lb⟩,by simpa using g0,by simpa using g1,by simpa using g2,by simpa using g3,h1,h2⟩)
  refine ⟨some a,n,c,es,hcs,he1,hl,hm,fun e he=>?_,fun hn=>?_⟩
  ·obtain ⟨k,hk,rfl⟩:=List.getElem_of_mem he
   exact (he2 k _ (List.getElem?_eq_getElem hk)).2.2.2.2
  ·obtain ⟨b,o,rfl⟩ : ∃ b o,a = ⟨b,o,none⟩:=by
     have h0:=he2 0 _ (List.getElem?_eq_getElem (by omega));have hp:=Zff h0.1;obtain ⟨b,o,s⟩:=a;refine ⟨b,o,?_⟩;unfold Addr.add at hp
     split at hp <;> simp_all
   refine ⟨b,o,rfl,fun k e hk=>?_⟩;have h0:=he2 k e hk;rw [Zg,Zg,Zg,Zg] at h0;exact ⟨h0.1,by rw [Nat.add_assoc];exact h0.2.1,by rw [Nat.add_assoc];exact h0.2.2.1,by rw [Nat.add_assoc];exact h0.2.2.2.1⟩
theorem Zo6 {fuel : Nat} {cs : List Value} {x : DataW H × List MemPlace} (h : DataW.trod enc Tryz.prog w base spare held fuel 22 cs = some x) : ∃ (A : Option Addr) (n c : Nat) (rs : List RX),cs = [.slice A n c] /\ MXL w A n c rs:=by
 have c1 : Tryz.prog.cellsOf 23 = 1:=by kernel_rfl
 rcases open_slice Tryz.underlying22 h with ⟨hcs,_⟩ | ⟨a,n,c,m,f,D,Pl,hcs,_,hl,hm,hmm,_,hi⟩
 ·exact ⟨none,0,0,[],hcs,rfl,Nat.le_refl _,Nat.zero_le _,fun e he=>(by cases he),fun h=>absurd h (by omega)⟩
 ·have hlm : n <= m:=by rw [hmm];split <;> omega
  rw [c1] at hi
  obtain ⟨rs,he1,he2⟩:=Zkg (fun i (r : RX)=>w.cell? (a.add i) = some (.slice r.A r.n r.c) /\ FXL w r.A r.n r.c r.es) n (fun i hin=>by
   obtain ⟨cs',hc,ht⟩:=hi i (by omega);obtain ⟨A,n1,c1,es,rfl,h1⟩:=Zmu ht;obtain ⟨_,_,hat⟩:=World.cells?_some hc;have g0:=hat 0 (by simp);rw [Go.Deep.add_add] at g0
   exact ⟨⟨A,n1,c1,es⟩,by simpa using g0,h1⟩)
  refine ⟨some a,n,c,rs,hcs,he1,hl,hm,fun r hr=>?_,fun hn=>?_⟩
  ·obtain ⟨k,hk,rfl⟩:=List.getElem_of_mem hr
   exact (he2 k _ (List.getElem?_eq_getElem hk)).2
  ·obtain ⟨b,o,rfl⟩ : ∃ b o,a = ⟨b,o,none⟩:=by
     have h0:=he2 0 _ (List.getElem?_eq_getElem (by omega));have hp:=Zff h0.1;obtain ⟨b,o,s⟩:=a;refine ⟨b,o,?_⟩;unfold Addr.add at hp
     split at hp <;> simp_all
   refine ⟨b,o,rfl,fun k r hk=>?_⟩;have h0:=he2 k r hk;rw [Zg] at h0;exact h0.1
theorem Zru {r : Reach} {b0 : Nat} {v : Value} {d : DataW H} {p : List MemPlace} (hv : Value.okWide Tryz.prog w r b0 22 v) (h : DataW.Trod enc Tryz.prog w base spare held 22 v d p) :
    ∃ (A : Option Addr) (n c : Nat) (rs : List RX),v = .slice A n c /\ MXL w A n c rs:=by
 obtain ⟨A,n,c,rfl⟩:=okWide_slice Tryz.underlying22 hv;obtain ⟨fuel,hf⟩:=h;obtain ⟨A',n',c',rs,e,hM⟩:=Zo6 hf
 simp [Value.cells] at e
 obtain ⟨rfl,rfl,rfl⟩:=e;exact ⟨_,_,_,rs,rfl,hM⟩
end
end Go.Proofs.YtpehacgjclkhmaaGreat
