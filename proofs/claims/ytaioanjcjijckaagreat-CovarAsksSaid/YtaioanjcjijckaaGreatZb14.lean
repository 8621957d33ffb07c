/- A region that draws its order, in a plain walk: by the -/
import Derived.Test.YtaioanjcjijckaaGreatZb13
set_option maxRecDepth 100000
set_option maxHeartbeats 2000000
set_option linter.unusedSimpArgs false
set_option linter.unusedVariables false
namespace Go.Proofs.YtaioanjcjijckaaGreat
open Go.RowKit
theorem OnlyNormal.imp {Q:Exit->Act->World->Prop} (e:Exit) (a:Act) (w:World) (h:OnlyNormal Q e a w):Q e a w:=by
 cases e <;> first | exact h | exact (h:False).elim
theorem Z8 {P:Program} {id:Nat} {ops:Array Oper} {Q:Exit->Act->World->Prop} {a:Act} {w:World} (L:List Nat) (S:World->Prop) (hm:P.follows .mixedOrders=true)
    (hS:S w.drew) (h:S w.drew->Zaj P .any ops (OnlyNormal Q) L S ops.size (Array.replicate ops.size false) a w.drew):(Code.region id ops true).wp P Q a w:=
 Code.wp_mono OnlyNormal.imp (wp_region_any hm (Zg0 _ _ _ _ (h hS)))
theorem wp_heldS {P:Program} {id:Nat} {ops:Array Oper} {Q:Exit->Act->World->Prop} {a:Act} {w w0:World} {B:Nat} {S:World->Prop} (L:List Nat) (hm:P.follows .mixedOrders=true)
    (hv:Hid (∀ wx,Below B w0 wx->S wx)) (hb:Below B w0 w.drew) (h:S w.drew->Zaj P .any ops (OnlyNormal Q) L S ops.size (Array.replicate ops.size false) a w.drew):(Code.region id ops true).wp P Q a w:=Z8 L S hm (hv.out _ hb) h
theorem Zrz {l n:Nat} {P:Program} {id:Nat} {ops:Array Oper} {Q:Exit->Act->World->Prop} {a:Act} {w w0:World} {B:Nat} {S:World->Prop} (L:List Nat) (hm:P.follows .mixedOrders=true) (hnd:Zh8 ops=true)
    (hv:Hid (∀ wx,Below B w0 wx->S wx)) (hb:Below B w0 w.drew) (h:S w.drew->Zaj P .any ops (OnlyNormal Q) L S ops.size (Array.replicate ops.size false) a w.drew):(Code.region id ops true).wpIn (Fence.wide.inRound l) n P Q a w:=Zc5 L S hm hnd (hv.out _ hb) h
attribute [local go_sem] Zf
theorem Zqo (na nb:Bool) (A B:Option Addr) (n c m d:Nat) (r:Rat) (w:World) (h:Fr w na A n c nb B m d r) :
    Calls Tryz.prog 37 #[.agg #[.bool na,.slice A n c,.bool nb,.slice B m d]] w fun e w'=>e=.returned (.int .i64 0)/\Below w.heap.size w w':=by
 have hn:=h.neg;subst hn
 have hmx:Tryz.prog.follows .mixedOrders=true:=by kernel_rfl
 have hl:=Zq0 r
 have hm0:0 < m:=by rw [<- h.2.lim.len];exact length_digits_pos.2 (by have:=hl.1;omega)
 have hm0':((m:Int) == 0)=false:=by simp;omega
 have hm:=h.2.2.1;obtain ⟨W0,hW0,hB0,q0,s0⟩:=Zaw w 29 #[.bool na,.slice A n c,.bool false,.slice B m d];have hA:=Za (h.below hB0);clear h;obtain ⟨a0,a1,a2,a3,-⟩:=q0.four;replace q0:=Za q0;go_enter Tryz.func37,Tryz.ntmps37;go_wp2_with fail;refine (Za6 hA.out.1.lim hA.out.1.ok).mono ?_;rintro e w1 ⟨rfl,hb1⟩;have hB1:Below w.heap.size w w1:=hB0.trans (hb1.mono hB0.size);replace hA:=Za (hA.out.below hb1);replace q0:=Za (Zc hb1 q0.out);clear a0 a1 a2 a3 hb1 hB0 hW0;obtain ⟨a0,a1,a2,a3,-⟩:=q0.out.four;go_wp2_with fail;refine (Za6 hA.out.2.lim hA.out.2.ok).mono ?_;rintro e w2 ⟨rfl,hb2⟩;have hB2:Below w.heap.size w w2:=hB1.trans (hb2.mono hB1.size);replace hA:=Za (hA.out.below hb2);replace q0:=Za (Zc hb2 q0.out);clear a0 a1 a2 a3 hb2 hB1;obtain ⟨a0,a1,a2,a3,-⟩:=q0.out.four;go_wp2_with fail;refine (Zi6 na false A B n c m d r.num r.den w2 hA.out.1 hA.out.2).mono ?_;rw [hl.2];rintro e w3 ⟨hb3,ng,Ag,kg,cg,code,rfl,hR⟩;have hG:=Za (hR.small (Zb2 4096 |> fun h=>by have:pw 0 < pw 4096:=Zc4 (by decide);rw [Zcw] at this;exact this));have hB3:Below w.heap.size w w3:=hB2.trans (hb3.mono hB2.size);clear a0 a1 a2 a3 hb3 hB2 q0 hA hR;obtain ⟨W4,hW4,hB4,q4,kW,kB,s4⟩:=Z5 27 #[.bool ng,.slice Ag kg cg] hB3 hB3.size;replace hG:=Za (kW _ _ _ _ _ hG.out);clear kW kB;obtain ⟨g0,g1,-⟩:=q4.two;replace q4:=Za q4;go_wp2_with fail;refine Z8 [] (fun W'=>W'.cell? ⟨w3.heap.size,0,none⟩=some (.bool ng)/\W'.cell? ⟨w3.heap.size,1,none⟩=some (.slice Ag kg cg)) hmx ⟨g0,g1⟩ (fun _=>?_)
 refine Zu5 1 [0] rfl (by kernel_rfl) ⟨g0,g1⟩ ?_
 (refine tk1 (v:=?_) rfl (Or.inl ⟨by kernel_rfl,?_⟩) ?_;rotate_left;(· intro W2 hSw;(try dsimp only at hSw);go_simp;try with_reducible rfl);try simp only [Act.put,putL_a,putL_z,putL_s,putG_a,putG_s,putG_z])
 refine tk0 ?_;refine Ze (i:=1) rfl (by kernel_rfl) (fun K hK=>?_);go_simp;refine (Zdl 1 W4.drew (by omega) (by omega)).mono ?_;rintro e w5 ⟨hb5,n1,A1,k1,c1,rfl,hO⟩;replace hb5:=Zq hb5;have hB5:Below w.heap.size w w5:=hB4.trans (hb5.mono (by show w.heap.size <= W4.heap.size;have:=hB3.size;omega));replace hG:=Za (hG.out.below hb5);replace q4:=Za (Zc hb5 q4.out);clear g0 g1;obtain ⟨g0,g1,-⟩:=q4.out.two;refine hK.out _ _ (fun _=>⟨g0,g1⟩) ?_;clear hK K
 try simp only [Act.put,putL_a,putL_z,putL_s]
 refine Ze (i:=2) rfl (by kernel_rfl) (fun K hK=>?_);go_simp;refine (Zdb ng n1 Ag A1 kg cg k1 c1 _ _ w5 hG.out.lim hO.lim).mono ?_
 have hsm:Ze4 ng n1 (digits (Int.natAbs ((1:Nat):Int))) (digits (Int.natAbs 1))=true:=by have h1:=hG.out.1;have h2:=hO.1;rw [h1,h2];unfold Ze4;simp [Zb9,Zbo]
 rw [hsm];rintro e w6 ⟨rfl,hb6⟩;have hB6:Below w.heap.size w w6:=hB5.trans (hb6.mono hB5.size);replace q4:=Za (Zc hb6 q4.out);clear g0 g1;obtain ⟨g0,g1,-⟩:=q4.out.two;refine hK.out _ _ (fun _=>⟨g0,g1⟩) ?_;clear hK K
 try simp only [Act.put,putL_a,putL_z,putL_s]
 refine Zu5 1 [3] rfl (by kernel_rfl) ⟨g0,g1⟩ ?_
 (refine tk1 (v:=?_) rfl (Or.inl ⟨by kernel_rfl,?_⟩) ?_;rotate_left;(· intro W2 hSw;(try dsimp only at hSw);go_simp;try with_reducible rfl);try simp only [Act.put,putL_a,putL_z,putL_s,putG_a,putG_s,putG_z])
 refine tk0 ?_;refine Zj (by kernel_rfl) ?_ _;refine OnlyNormal.normal ?_;go_wp2_with fail;go_ret;exact ⟨rfl,hB6⟩
theorem ResP.code0 {w:World} {z:Int} {neg:Bool} {A:Option Addr} {n c:Nat} {code:Int} (h:ResP w z neg A n c code) (hs:z.natAbs < pw 4096):code=0:=by
 rcases h with ⟨_,h,_⟩ | ⟨h,_⟩
 ·exact h
 ·omega
def Zll (w:World) (x y:Int) (e:Ending) (w':World):Prop:=
 Below w.heap.size w w'/\∃ na A n c nb B m d,e=.returned (.tuple #[.agg #[.bool na,.slice A n c],.agg #[.bool nb,.slice B m d]])/\Wd w' na A n c x/\Wd w' nb B m d y
theorem Mul1_ok (na nb na' nb':Bool) (A B A' B':Option Addr) (n c m d n' c' m' d':Nat) (a b:Rat) (w:World) (ha:Fr w na A n c nb B m d a) (hb:Fr w na' A' n' c' nb' B' m' d' b)
    (hs:(a.num * b.num).natAbs < pw 4096) (ht:((a.den:Int) * (b.den:Nat)).natAbs < pw 4096) :
    Calls Tryz.prog 184 #[.agg #[.bool na,.slice A n c,.bool nb,.slice B m d],.agg #[.bool na',.slice A' n' c',.bool nb',.slice B' m' d']] w (Zll w (a.num * b.num) ((a.den:Int) * (b.den:Nat))):=by
 obtain ⟨W0,hW0,hB0,⟨q0,q1,q2,q3⟩,s0⟩:=Ze9 w 29 #[.bool na,.slice A n c,.bool nb,.slice B m d] 29 #[.bool na',.slice A' n' c',.bool nb',.slice B' m' d'] 27 #[.bool false,.slice none 0 0] 27 #[.bool false,.slice none 0 0]
 have hmx:Tryz.prog.follows .mixedOrders=true:=by kernel_rfl
 have hA:=Za (ha.below hB0);have hD:=Za (hb.below hB0);replace hs:=Za hs;replace ht:=Za ht;have sz:=Za hB0.size;have hB:=Za hB0;clear ha hb hB0 s0;replace q0:=Za q0;replace q1:=Za q1;replace q2:=Za q2;replace q3:=Za q3;obtain ⟨a0,a1,a2,a3,-⟩:=q0.out.four;obtain ⟨b0,b1,b2,b3,-⟩:=q1.out.four;replace hW0:=Za hW0;go_enter Tryz.func184,Tryz.ntmps184;go_wp2_with fail;rw [hW0.out];clear hW0;refine Z8 [17] (fun W'=>W'.cell? ⟨w.heap.size,0,none⟩=some (.bool na)/\W'.cell? ⟨w.heap.size,1,none⟩=some (.slice A n c)/\W'.cell? ⟨w.heap.size,2,none⟩=some (.bool nb)/\W'.cell? ⟨w.heap.size,3,none⟩=some (.slice B m d)/\W'.cell? ⟨w.heap.size+1,0,none⟩=some (.bool na')/\W'.cell? ⟨w.heap.size+1,1,none⟩=some (.slice A' n' c')/\W'.cell? ⟨w.heap.size+1,2,none⟩=some (.bool nb')/\W'.cell? ⟨w.heap.size+1,3,none⟩=some (.slice B' m' d')) hmx ⟨a0,a1,a2,a3,b0,b1,b2,b3⟩ (fun _=>?_);refine Zu5 8 [0,1,2,3,8,9,10,11] rfl (by kernel_rfl) ⟨a0,a1,a2,a3,b0,b1,b2,b3⟩ ?_
 iterate 8 (refine tk1 (v:=?_) rfl (Or.inl ⟨by kernel_rfl,?_⟩) ?_;rotate_left;(· intro W2 hSw;(try dsimp only at hSw);go_simp;try with_reducible rfl);try simp only [Act.put,putL_a,putL_z,putL_s,putG_a,putG_s,putG_z])
 refine tk0 ?_;refine Ze (i:=4) rfl (by kernel_rfl) (fun K hK=>?_);go_simp;refine (Zie na na' A A' n c n' c' a.num b.num W0.drew hA.out.1 hD.out.1).mono ?_;rintro e w1 ⟨hb1,np,P,k,q,code,rfl,hR⟩;replace hb1:=Zq hb1;have hP:=Za (hR.small hs.out);have hcode:=hR.code0 hs.out;subst hcode;clear hs hR;replace q0:=Za (Zc hb1 q0.out);replace q1:=Za (Zc hb1 q1.out);replace q2:=Za (Zc hb1 q2.out);replace q3:=Za (Zc hb1 q3.out);replace hA:=Za (hA.out.below hb1);replace hD:=Za (hD.out.below hb1);replace hB:=Za (hB.out.trans (hb1.mono sz.out));replace sz:=Za (Nat.le_trans sz.out hb1.size);clear a0 a1 a2 a3 b0 b1 b2 b3;obtain ⟨a0,a1,a2,a3,-⟩:=q0.out.four;obtain ⟨b0,b1,b2,b3,-⟩:=q1.out.four;clear hb1;refine hK.out _ _ (fun _=>⟨a0,a1,a2,a3,b0,b1,b2,b3⟩) ?_;clear hK K
 try simp only [Act.put,putL_a,putL_z,putL_s]
 refine Zu5 2 [5,6] rfl (by kernel_rfl) ⟨a0,a1,a2,a3,b0,b1,b2,b3⟩ ?_
 iterate 2 (refine tk1 (v:=?_) rfl (Or.inl ⟨by kernel_rfl,?_⟩) ?_;rotate_left;(· intro W2 hSw;(try dsimp only at hSw);go_simp;try with_reducible rfl);try simp only [Act.put,putL_a,putL_z,putL_s,putG_a,putG_s,putG_z])
 refine tk0 ?_;refine Ze (i:=7) rfl (by kernel_rfl) (fun K hK=>?_);go_simp;refine (Zdd np P k q w1).mono ?_;rintro e w2 ⟨rfl,hb2⟩;replace hP:=Za (hP.out.below hb2);replace q0:=Za (Zc hb2 q0.out);replace q1:=Za (Zc hb2 q1.out);replace q2:=Za (Zc hb2 q2.out);replace q3:=Za (Zc hb2 q3.out);replace hA:=Za (hA.out.below hb2);replace hD:=Za (hD.out.below hb2);replace hB:=Za (hB.out.trans (hb2.mono sz.out));replace sz:=Za (Nat.le_trans sz.out hb2.size);clear a0 a1 a2 a3 b0 b1 b2 b3;obtain ⟨a0,a1,a2,a3,-⟩:=q0.out.four;obtain ⟨b0,b1,b2,b3,-⟩:=q1.out.four;clear hb2;refine hK.out _ _ (fun _=>⟨a0,a1,a2,a3,b0,b1,b2,b3⟩) ?_;clear hK K
 try simp only [Act.put,putL_a,putL_z,putL_s]
 refine Ze (i:=12) rfl (by kernel_rfl) (fun K hK=>?_);go_simp;refine (Zie nb nb' B B' m d m' d' a.den b.den w2 hA.out.2 hD.out.2).mono ?_;rintro e w3 ⟨hb3,np',P',k',q',code,rfl,hR⟩;replace hP:=Za (hP.out.below hb3);have hP':=Za (hR.small ht.out);have hcode:=hR.code0 ht.out;subst hcode;clear ht hR;replace q0:=Za (Zc hb3 q0.out);replace q1:=Za (Zc hb3 q1.out);replace q2:=Za (Zc hb3 q2.out);replace q3:=Za (Zc hb3 q3.out);replace hA:=Za (hA.out.below hb3);replace hD:=Za (hD.out.below hb3);replace hB:=Za (hB.out.trans (hb3.mono sz.out));replace sz:=Za (Nat.le_trans sz.out hb3.size);clear a0 a1 a2 a3 b0 b1 b2 b3;obtain ⟨a0,a1,a2,a3,-⟩:=q0.out.four;obtain ⟨b0,b1,b2,b3,-⟩:=q1.out.four;clear hb3;refine hK.out _ _ (fun _=>⟨a0,a1,a2,a3,b0,b1,b2,b3⟩) ?_;clear hK K
 try simp only [Act.put,putL_a,putL_z,putL_s]
 refine Zu5 2 [13,14] rfl (by kernel_rfl) ⟨a0,a1,a2,a3,b0,b1,b2,b3⟩ ?_
 iterate 2 (refine tk1 (v:=?_) rfl (Or.inl ⟨by kernel_rfl,?_⟩) ?_;rotate_left;(· intro W2 hSw;(try dsimp only at hSw);go_simp;try with_reducible rfl);try simp only [Act.put,putL_a,putL_z,putL_s,putG_a,putG_s,putG_z])
 refine tk0 ?_;refine Ze (i:=15) rfl (by kernel_rfl) (fun K hK=>?_);go_simp;refine (Zdd np' P' k' q' w3).mono ?_;rintro e w4 ⟨rfl,hb4⟩;replace hP:=Za (hP.out.below hb4);replace hP':=Za (hP'.out.below hb4);replace q0:=Za (Zc hb4 q0.out);replace q1:=Za (Zc hb4 q1.out);replace q2:=Za (Zc hb4 q2.out);replace q3:=Za (Zc hb4 q3.out);replace hA:=Za (hA.out.below hb4);replace hD:=Za (hD.out.below hb4);replace hB:=Za (hB.out.trans (hb4.mono sz.out));replace sz:=Za (Nat.le_trans sz.out hb4.size);clear a0 a1 a2 a3 b0 b1 b2 b3;obtain ⟨a0,a1,a2,a3,-⟩:=q0.out.four;obtain ⟨b0,b1,b2,b3,-⟩:=q1.out.four;clear hb4;obtain ⟨x0,x1,f0,f1⟩:=q2.out.two;refine hK.out _ _ (fun _=>⟨a0,a1,a2,a3,b0,b1,b2,b3⟩) ?_;clear hK K
 try simp only [Act.put,putL_a,putL_z,putL_s]
 refine Ze (i:=16) rfl (by kernel_rfl) (fun K hK=>?_);go_simp;obtain ⟨W5,hW5,hB5,q2',kW,kB,s5⟩:=Zaa np P k q hB.out (by omega) q2.out;rw [hW5];clear hW5 x0 x1 f0 f1 a0 a1 a2 a3 b0 b1 b2 b3 hA hD;replace q0:=kB _ _ _ (by omega) q0.out;replace q1:=kB _ _ _ (by omega) q1.out;obtain ⟨a0,a1,a2,a3,-⟩:=q0.four;obtain ⟨b0,b1,b2,b3,-⟩:=q1.four;replace q3:=Za (kB _ _ _ (by omega) q3.out);replace hP:=Za (kW _ _ _ _ _ hP.out);replace hP':=Za (kW _ _ _ _ _ hP'.out);clear kW kB q2 hB q0 q1;obtain ⟨y0,y1,g0,g1⟩:=q3.out.two;refine hK.out _ _ (fun _=>⟨a0,a1,a2,a3,b0,b1,b2,b3⟩) ?_;clear hK K
 try simp only [Act.put,putL_a,putL_z,putL_s]
 refine Zp (i:=17) rfl (by kernel_rfl) (by kernel_rfl) (fun K hK=>?_);go_simp;obtain ⟨W6,hW6,hB6,q3',kW,kB,s6⟩:=Zaa np' P' k' q' hB5 (by omega) q3.out;rw [hW6];clear hW6 y0 y1 g0 g1 a0 a1 a2 a3 b0 b1 b2 b3;replace q2':=kB _ _ _ (by omega) q2';replace hP:=Za (kW _ _ _ _ _ hP.out);replace hP':=Za (kW _ _ _ _ _ hP'.out);clear kW kB q3 hB5;refine hK.out _ _ ?_;clear hK K
 try simp only [Act.put,putL_a,putL_z,putL_s]
 refine Zj (by kernel_rfl) ?_ _;refine OnlyNormal.normal ?_;obtain ⟨r0,r1,-⟩:=q2'.two;obtain ⟨r2,r3,-⟩:=q3'.two;go_wp2_with fail;refine bodyPost_ret (v:=.tuple #[.agg #[.bool np,.slice P k q],.agg #[.bool np',.slice P' k' q']]) (by simp [results,Tryz.results184,go_sem,r0,r1,r2,r3]) rfl ?_;exact ⟨hB6,_,_,_,_,_,_,_,_,rfl,hP.out,hP'.out⟩
end Go.Proofs.YtaioanjcjijckaaGreat
