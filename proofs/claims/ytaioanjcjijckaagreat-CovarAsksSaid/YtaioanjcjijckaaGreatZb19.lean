/- Package covar: its falls, and its numbers. Raw fractions: -/
import Derived.Deep.LoopGhost
import Derived.Test.YtaioanjcjijckaaGreatZb18
set_option maxRecDepth 100000
set_option maxHeartbeats 2000000
set_option linter.unusedSimpArgs false
set_option linter.unusedVariables false
namespace Go.Proofs.YtaioanjcjijckaaGreat
open Go.RowKit
attribute [local go_sem] Zf
theorem Zao {t:TypeId} {w:World} {g:Nat} {a0:Bool} {A0:Option Addr} {n0 c0:Nat} {b0:Bool} {B0:Option Addr} {m0 d0:Nat} (na:Bool) (A:Option Addr) (n c:Nat) (nb:Bool) (B:Option Addr) (m d:Nat) (hb:Blk w g t #[.bool a0,.slice A0 n0 c0,.bool b0,.slice B0 m0 d0]) :
    ∃ W,(((w.setCell ⟨g,0,none⟩ (.bool na)).setCell ⟨g,1,none⟩ (.slice A n c)).setCell ⟨g,2,none⟩ (.bool nb)).setCell ⟨g,3,none⟩ (.slice B m d)=W/\Blk W g t #[.bool na,.slice A n c,.bool nb,.slice B m d]/\Kept (fun k=>k=g) w W/\W.heap.size=w.heap.size:=by
 have hb1:Blk (w.setCell ⟨g,0,none⟩ (.bool na)) g t #[.bool na,.slice A0 n0 c0,.bool b0,.slice B0 m0 d0]:=hb.set_ 0 (.bool na);have hb2:Blk ((w.setCell ⟨g,0,none⟩ (.bool na)).setCell ⟨g,1,none⟩ (.slice A n c)) g t #[.bool na,.slice A n c,.bool b0,.slice B0 m0 d0]:=hb1.set_ 1 (.slice A n c);have hb3:Blk (((w.setCell ⟨g,0,none⟩ (.bool na)).setCell ⟨g,1,none⟩ (.slice A n c)).setCell ⟨g,2,none⟩ (.bool nb)) g t #[.bool na,.slice A n c,.bool nb,.slice B0 m0 d0]:=hb2.set_ 2 (.bool nb);have hb4:Blk ((((w.setCell ⟨g,0,none⟩ (.bool na)).setCell ⟨g,1,none⟩ (.slice A n c)).setCell ⟨g,2,none⟩ (.bool nb)).setCell ⟨g,3,none⟩ (.slice B m d)) g t #[.bool na,.slice A n c,.bool nb,.slice B m d]:=hb3.set_ 3 (.slice B m d);have k0:Kept (fun k=>k=g) w w:=Kept.refl _ _;exact ⟨_,rfl,hb4,(((k0.set_ (p:=⟨g,0,none⟩) (.inl rfl) _).set_ (p:=⟨g,1,none⟩) (.inl rfl) _).set_ (p:=⟨g,2,none⟩) (.inl rfl) _).set_ (p:=⟨g,3,none⟩) (.inl rfl) _,by simp⟩
theorem Fr.keptN {w w':World} {na:Bool} {A:Option Addr} {n c:Nat} {nb:Bool} {B:Option Addr} {m d:Nat} {r:Rat} {g:Nat} {t:TypeId} {cs:Array Value} (h:Fr w na A n c nb B m d r) (hk:Kept (fun k=>k=g) w w') (hb:Blk w g t cs) (hn:NoLimb cs):Fr w' na A n c nb B m d r:=
 ⟨hk.wd h.1 (fun k e=>by cases e;exact ⟨_,_,hb,hn⟩),hk.wd h.2 (fun k e=>by cases e;exact ⟨_,_,hb,hn⟩)⟩
theorem Zay (a:Bool) (A:Option Addr) (n c:Nat) (b:Bool) (B:Option Addr) (m d:Nat):NoLimb #[.bool a,.slice A n c,.bool b,.slice B m d]:=fun i x=>by
 match i with
 | 0=>simp
 | 1=>simp
 | 2=>simp
 | 3=>simp
 | i+4=>simp
theorem Zcu (x:Int) (w:World) :
    Calls Tryz.prog 54 #[.bool true,.int .i64 x] w fun e w'=>e=.returned (.tuple #[])/\w'=w:=by
 go_enter Tryz.func54,Tryz.ntmps54;go_wp2_with fail
 go_end0
 exact ⟨rfl,rfl⟩
theorem Zbl (x:Int) (w:World) :
    Calls Tryz.prog 54 #[.bool false,.int .i64 x] w fun e w'=>e=.panicked [{ v:=.iface 154 (.agg #[.int .i64 x]),recovered:=false }]/\w'=w:=by
 go_enter Tryz.func54,Tryz.ntmps54;go_wp2_with fail;exact ⟨rfl,rfl,rfl⟩
theorem Zf6 (p:Addr) (w:World) :
    CallsD Tryz.prog 52 #[.pointer (some p)] .returning w fun e u' w'=>e=.returned (.tuple #[])/\u'=.returning/\w'=w:=by
 refine callsD_of_wpS Tryz.func52 rfl fun c₀ cs hu=>?_
 apply wpS_seq
 apply wpS_region
 simp [wpOpsS,go_sem,recoverD,hu,Tryz.ntmps52,Exit.thenS]
 rw [show (#[Value.pointer (some p)] ++ (Array.replicate 14 undef).setIfInBounds 4 Value.nilIface)=#[Value.pointer (some p),undef,undef,undef,undef,Value.nilIface,undef,undef,undef,undef,undef,undef,undef,undef,undef] from rfl];refine wpS_of_wp ?_;go_wp2_with fail
 cases c₀
 simp_all [bodyPostS,results,Tryz.results52]
theorem Ztu (x:Int) (w:World):(Instr.typeAssert (.iface 154 (.agg #[.int .i64 x])) 20 154 true).run Tryz.prog w=.ok (.tuple #[.agg #[.int .i64 x],.bool true]) w:=by kernel_rfl
theorem Zb7 (p:Addr) (x y:Int) (w:World) (hc:w.cell? p=some (.int .i64 y)) (hz:w.frozen? p=false) :
    CallsD Tryz.prog 52 #[.pointer (some p)] (.panicking [{ v:=.iface 154 (.agg #[.int .i64 x]),recovered:=false }]) w fun e u' w' =>
     e=.returned (.tuple #[])/\u'=.panicking [{ v:=.iface 154 (.agg #[.int .i64 x]),recovered:=true }]/\w'=(w.alloc (.cells #[.int .i64 x] 154)).setCell p (.int .i64 x):=by
 have hlt:=Z0 hc
 have hc1:(w.alloc (.cells #[.int .i64 x] 154)).cell? p=some (.int .i64 y):=by rw [World.cell?_alloc_lt _ _ _ hlt];exact hc
 have hz1:(w.alloc (.cells #[.int .i64 x] 154)).frozen? p=false:=by exact ((Below.refl w.heap.size w).alloc (Nat.le_refl _) _ |>.frozen hlt).trans hz
 have hta:=Ztu x
 refine callsD_of_wpS Tryz.func52 rfl fun c₀ cs hu=>?_
 apply wpS_seq
 apply wpS_region
 simp [wpOpsS,go_sem,recoverD,hu,Tryz.ntmps52,Exit.thenS]
 rw [show (#[Value.pointer (some p)] ++ (Array.replicate 14 undef).setIfInBounds 4 (Value.iface 154 (.agg #[.int .i64 x])))=#[Value.pointer (some p),undef,undef,undef,undef,Value.iface 154 (.agg #[.int .i64 x]),undef,undef,undef,undef,undef,undef,undef,undef,undef] from rfl];refine wpS_of_wp ?_;go_wp2_with fail
 simp [bodyPostS,results,Tryz.results52]
theorem Zew (na nb:Bool) (A B:Option Addr) (n c m d:Nat) (q:Rat) (w:World) (h:Fr w na A n c nb B m d q) :
    Calls Tryz.prog 117 #[.agg #[.bool na,.slice A n c,.bool nb,.slice B m d],.int .i64 0] w (Zdi w q):=by
 obtain ⟨W0,hW0,hB0,⟨q0,q1⟩,s0⟩:=Zc7 w 29 #[.bool na,.slice A n c,.bool nb,.slice B m d] 99 #[.bool false,.slice none 0 0,.bool false,.slice none 0 0];obtain ⟨a0,a1,a2,a3,-⟩:=q0.four;obtain ⟨gR,hgR⟩:∃ g,w.heap.size+1=g:=⟨_,rfl⟩;rw [hgR] at q1;have h0:=h.below hB0;go_enter Tryz.func117,Tryz.ntmps117;go_wp2_with fail;(try rw [hW0]);refine (Zcu 0 W0).mono ?_;rintro e w1 ⟨rfl,rfl⟩;(try rw [hgR]);obtain ⟨c0,c1,c2,c3,z0,z1,z2,z3⟩:=q1.four;obtain ⟨W5,hW5,q5,hK5,s5⟩:=Zao na A n c nb B m d q1;go_wp2_with fail;(try rw [hW5]);obtain ⟨r0,r1,r2,r3,-⟩:=q5.four;refine bodyPost_ret (v:=.agg #[.bool na,.slice A n c,.bool nb,.slice B m d]) (by simp [results,Tryz.results117,go_sem,r0,r1,r2,r3]) rfl ?_;refine ⟨?_,_,_,_,_,_,_,_,_,rfl,h0.keptN hK5 q1 (Zay _ _ _ _ _ _ _ _)⟩;exact hB0.trans (hK5.to_below (fun k e=>by omega) (by omega))
theorem Zd2 (na nb na' nb':Bool) (A B A' B':Option Addr) (n c m d n' c' m' d':Nat) (a b:Rat) (w:World) (ha:Fr w na A n c nb B m d a) (hb:Fr w na' A' n' c' nb' B' m' d' b) (sa:Sm a) (sb:Sm b) :
    Calls Tryz.prog 67 #[.agg #[.bool na,.slice A n c,.bool nb,.slice B m d],.agg #[.bool na',.slice A' n' c',.bool nb',.slice B' m' d']] w (Zdi w (a - b)):=by
 obtain ⟨W0,hW0,hB0,⟨q0,q1,q2⟩,s0⟩:=Zb5 w 99 #[.bool na,.slice A n c,.bool nb,.slice B m d] 99 #[.bool na',.slice A' n' c',.bool nb',.slice B' m' d'] 99 #[.bool false,.slice none 0 0,.bool false,.slice none 0 0];obtain ⟨a0,a1,a2,a3,-⟩:=q0.four;obtain ⟨b0,b1,b2,b3,-⟩:=q1.four;obtain ⟨gR,hgR⟩:∃ g,w.heap.size+1+1=g:=⟨_,rfl⟩;rw [hgR] at q2;have hA:=ha.below hB0;have hD:=hb.below hB0;go_enter Tryz.func67,Tryz.ntmps67;go_wp2_with fail;(try rw [hW0]);refine (fSub_ok na nb na' nb' A B A' B' n c m d n' c' m' d' a b W0 hA hD sa sb).mono ?_;rintro e w1 ⟨hb1,pn,pA,pk,pc,pm,pB,pj,pd,rfl,hf⟩;replace q2:=Zc hb1 q2;clear a0 a1 a2 a3 b0 b1 b2 b3 q0 q1 hA hD;go_wp2_with fail;refine (Zew pn pm pA pB pk pc pj pd _ w1 hf).mono ?_;rintro e w2 ⟨hb2,rn,rA,rk,rc,rm,rB,rj,rd,rfl,hr⟩;replace q2:=Zc hb2 q2;(try rw [hgR]);obtain ⟨c0,c1,c2,c3,z0,z1,z2,z3⟩:=q2.four;obtain ⟨W5,hW5,q5,hK5,s5⟩:=Zao rn rA rk rc rm rB rj rd q2;clear hf;go_wp2_with fail;(try rw [hW5]);obtain ⟨r0,r1,r2,r3,-⟩:=q5.four;refine bodyPost_ret (v:=.agg #[.bool rn,.slice rA rk rc,.bool rm,.slice rB rj rd]) (by simp [results,Tryz.results67,go_sem,r0,r1,r2,r3]) rfl ?_;refine ⟨?_,_,_,_,_,_,_,_,_,rfl,hr.keptN hK5 q2 (Zay _ _ _ _ _ _ _ _)⟩;have hB2:=hB0.trans ((hb1.trans (hb2.mono hb1.size)).mono hB0.size);exact hB2.trans (hK5.to_below (fun k e=>by omega) hB2.size)
def okF (na:Bool) (la:List Nat) (nb:Bool) (lb:List Nat):Bool:=okW na la && okW nb lb && !nb && decide (0 < lb.length) && decide (Nat.gcd (val la) (val lb)=1)
def qOf (na:Bool) (la lb:List Nat):Rat:=Rat.divInt (sg na (val la)) (val lb:Nat)
theorem Zmv {w:World} {na nb:Bool} {A B:Option Addr} {n c m d:Nat} {la lb:List Nat} (ha:Lim w A n c la) (hb:Lim w B m d lb) (hk:okF na la nb lb=true):Fr w na A n c nb B m d (qOf na la lb):=by
 simp only [okF,Bool.and_eq_true,Bool.not_eq_true',decide_eq_true_eq] at hk;obtain ⟨⟨⟨⟨k1,k2⟩,rfl⟩,k4⟩,k5⟩:=hk;have h2:=(Zhh hb.lt).1 k2;have e2:(sg false (val lb)).natAbs=val lb:=Z6 _ _;rw [e2] at h2
 have hp:0 < val lb:=by
  rw [h2.2.2] at k4;exact length_digits_pos.1 k4
 have hl:Low (sg na (val la)) (val lb:Nat):=⟨by omega,by rw [Z6,Int.natAbs_natCast];exact k5⟩;obtain ⟨r1,r2⟩:=rat_low hl;have w1:=Wd.of_ok ha k1;have w2:=Wd.of_ok hb k2;have e3:sg false (val lb)=(val lb:Nat):=rfl;rw [e3] at w2;refine ⟨?_,?_⟩
 ·unfold qOf;rw [r1];exact w1
 ·unfold qOf;rw [r2];exact w2
theorem Znv (na nb:Bool) (A B:Option Addr) (n c m d:Nat) (la lb:List Nat) (w:World) (ha:Lim w A n c la) (hb:Lim w B m d lb) (hbad:(okW na la && okW nb lb)=false) :
    Calls Tryz.prog 116 #[.agg #[.bool na,.slice A n c,.bool nb,.slice B m d]] w fun e w'=>e=.returned (.int .i64 8)/\Below w.heap.size w w':=by
 have hmx:Tryz.prog.follows .mixedOrders=true:=by kernel_rfl
 obtain ⟨W0,hW0,hB0,q0,s0⟩:=Zaw w 29 #[.bool na,.slice A n c,.bool nb,.slice B m d];have hA:=Za (ha.below hB0);have hD:=Za (hb.below hB0);clear ha hb;obtain ⟨a0,a1,a2,a3,-⟩:=q0.four;replace q0:=Za q0;go_enter Tryz.func116,Tryz.ntmps116;go_wp2_with fail;refine (Gcd_bad na nb A B n c m d la lb W0 hA.out hD.out hbad).mono ?_;rintro e w1 ⟨rfl,hb1⟩;have hB1:Below w.heap.size w w1:=hB0.trans (hb1.mono hB0.size);clear hW0 a0 a1 a2 a3 hb1;obtain ⟨W4,hW4,hB4,q4,kW,kB,s4⟩:=Z5 27 #[.bool false,.slice none 0 0] hB1 hB1.size;obtain ⟨g0,g1,f0,f1⟩:=q4.two;go_wp2_with fail;refine Z8 [] (fun wx=>True) hmx trivial (fun _=>?_);refine Ze (i:=0) rfl (by kernel_rfl) (fun K hK=>?_);go_simp;refine hK.out _ _ (fun _=>trivial) ?_;clear hK K
 try simp only [Act.put,putL_a,putL_z,putL_s]
 refine Ze (i:=1) rfl (by kernel_rfl) (fun K hK=>?_);go_simp;refine hK.out _ _ (fun _=>trivial) ?_;clear hK K
 try simp only [Act.put,putL_a,putL_z,putL_s]
 refine Ze (i:=2) rfl (by kernel_rfl) (fun K hK=>?_);go_simp;refine hK.out _ _ (fun _=>trivial) ?_;clear hK K
 try simp only [Act.put,putL_a,putL_z,putL_s]
 refine Ze (i:=3) rfl (by kernel_rfl) (fun K hK=>?_);go_simp;refine hK.out _ _ (fun _=>trivial) ?_;clear hK K
 try simp only [Act.put,putL_a,putL_z,putL_s]
 refine Ze (i:=4) rfl (by kernel_rfl) (fun K hK=>?_);go_simp;refine hK.out _ _ (fun _=>trivial) ?_;clear hK K
 try simp only [Act.put,putL_a,putL_z,putL_s]
 refine Ze (i:=5) rfl (by kernel_rfl) (fun K hK=>?_);go_simp;refine hK.out _ _ (fun _=>trivial) ?_;clear hK K
 try simp only [Act.put,putL_a,putL_z,putL_s]
 refine Ze (i:=6) rfl (by kernel_rfl) (fun K hK=>?_);go_simp;refine hK.out _ _ (fun _=>trivial) ?_;clear hK K
 try simp only [Act.put,putL_a,putL_z,putL_s]
 refine Ze (i:=7) rfl (by kernel_rfl) (fun K hK=>?_);go_simp;refine hK.out _ _ (fun _=>trivial) ?_;clear hK K
 try simp only [Act.put,putL_a,putL_z,putL_s]
 refine Ze (i:=8) rfl (by kernel_rfl) (fun K hK=>?_);go_simp;refine hK.out _ _ (fun _=>trivial) ?_;clear hK K
 try simp only [Act.put,putL_a,putL_z,putL_s]
 refine Ze (i:=9) rfl (by kernel_rfl) (fun K hK=>?_);go_simp;refine hK.out _ _ (fun _=>trivial) ?_;clear hK K
 try simp only [Act.put,putL_a,putL_z,putL_s]
 refine Ze (i:=10) rfl (by kernel_rfl) (fun K hK=>?_);go_simp;refine hK.out _ _ (fun _=>trivial) ?_;clear hK K
 try simp only [Act.put,putL_a,putL_z,putL_s]
 refine Ze (i:=11) rfl (by kernel_rfl) (fun K hK=>?_);go_simp;refine hK.out _ _ (fun _=>trivial) ?_;clear hK K
 try simp only [Act.put,putL_a,putL_z,putL_s]
 refine Ze (i:=12) rfl (by kernel_rfl) (fun K hK=>?_);go_simp;refine hK.out _ _ (fun _=>trivial) ?_;clear hK K
 try simp only [Act.put,putL_a,putL_z,putL_s]
 refine Zd (i:=13) (v:=undef) rfl (by kernel_rfl) (by kernel_rfl) (by kernel_rfl) (by kernel_rfl) (by kernel_rfl) (Or.inr ⟨by rfl,rfl⟩) trivial ?_
 try simp only [Act.put,putL_a,putL_z,putL_s]
 refine Ze (i:=14) rfl (by kernel_rfl) (fun K hK=>?_);go_simp;refine hK.out _ _ (fun _=>trivial) ?_;clear hK K
 try simp only [Act.put,putL_a,putL_z,putL_s]
 refine Ze (i:=15) rfl (by kernel_rfl) (fun K hK=>?_);go_simp;refine hK.out _ _ (fun _=>trivial) ?_;clear hK K
 try simp only [Act.put,putL_a,putL_z,putL_s]
 refine Ze (i:=16) rfl (by kernel_rfl) (fun K hK=>?_);go_simp;refine hK.out _ _ (fun _=>trivial) ?_;clear hK K
 try simp only [Act.put,putL_a,putL_z,putL_s]
 refine Ze (i:=17) rfl (by kernel_rfl) (fun K hK=>?_);go_simp;refine hK.out _ _ (fun _=>trivial) ?_;clear hK K
 try simp only [Act.put,putL_a,putL_z,putL_s]
 refine Zj (by kernel_rfl) ?_ _;refine OnlyNormal.normal ?_;go_wp2_with fail;go_ret;exact ⟨rfl,Zi ((hB4.setCell (p:=⟨w1.heap.size,0,none⟩) hB1.size (.bool false)).setCell (p:=⟨w1.heap.size,1,none⟩) hB1.size (.slice none 0 0)) 1⟩
theorem Zno (na:Bool) (A B:Option Addr) (n c m d:Nat) (za zb:Int) (w:World) (ha:Wd w na A n c za) (hb:Wd w true B m d zb) :
    Calls Tryz.prog 116 #[.agg #[.bool na,.slice A n c,.bool true,.slice B m d]] w fun e w'=>e=.returned (.int .i64 8)/\Below w.heap.size w w':=by
 have hmx:Tryz.prog.follows .mixedOrders=true:=by kernel_rfl
 have hgs:Nat.gcd za.natAbs zb.natAbs < pw 4096:=Zc9 ha.small hb.small;obtain ⟨W0,hW0,hB0,q0,s0⟩:=Zaw w 29 #[.bool na,.slice A n c,.bool true,.slice B m d];have hA:=Za (ha.below hB0);have hD:=Za (hb.below hB0);clear ha hb;obtain ⟨a0,a1,a2,a3,-⟩:=q0.four;go_enter Tryz.func116,Tryz.ntmps116;go_wp2_with fail;refine (Zjn na true A B n c m d za zb W0 hA.out hD.out).mono ?_;rintro e w1 ⟨hb1,ng,Ag,kg,cg,code,rfl,hR⟩
 rcases hR with ⟨-,rfl,hgw⟩ | ⟨hbig,-⟩
 case inr=>exact absurd hbig (by omega)
 have hB1:Below w.heap.size w w1:=hB0.trans (hb1.mono hB0.size);replace q0:=Zc hb1 q0;clear hW0 a0 a1 a2 a3 hb1;obtain ⟨W4,hW4,hB4,q4,kW,kB,s4⟩:=Z5 27 #[.bool ng,.slice Ag kg cg] hB1 hB1.size;replace q0:=kB _ _ _ q0;obtain ⟨g0,g1,f0,f1⟩:=q4.two;obtain ⟨a0,a1,a2,a3,-⟩:=q0.four;go_wp2_with fail;refine Z8 [] (fun wx=>wx.cell? ⟨w.heap.size,2,none⟩=some (.bool true)) hmx a2 (fun _=>?_);refine Ze (i:=0) rfl (by kernel_rfl) (fun K hK=>?_);go_simp;refine hK.out _ _ (fun _=>a2) ?_;clear hK K
 try simp only [Act.put,putL_a,putL_z,putL_s]
 refine Ze (i:=1) rfl (by kernel_rfl) (fun K hK=>?_);go_simp;refine hK.out _ _ (fun _=>a2) ?_;clear hK K
 try simp only [Act.put,putL_a,putL_z,putL_s]
 refine Ze (i:=2) rfl (by kernel_rfl) (fun K hK=>?_);go_simp;refine hK.out _ _ (fun _=>a2) ?_;clear hK K
 try simp only [Act.put,putL_a,putL_z,putL_s]
 refine Ze (i:=3) rfl (by kernel_rfl) (fun K hK=>?_);go_simp;refine hK.out _ _ (fun _=>a2) ?_;clear hK K
 try simp only [Act.put,putL_a,putL_z,putL_s]
 refine Ze (i:=4) rfl (by kernel_rfl) (fun K hK=>?_);go_simp;refine hK.out _ _ (fun _=>a2) ?_;clear hK K
 try simp only [Act.put,putL_a,putL_z,putL_s]
 refine Ze (i:=5) rfl (by kernel_rfl) (fun K hK=>?_);go_simp;refine hK.out _ _ (fun _=>a2) ?_;clear hK K
 try simp only [Act.put,putL_a,putL_z,putL_s]
 refine Ze (i:=6) rfl (by kernel_rfl) (fun K hK=>?_);go_simp;refine hK.out _ _ (fun _=>a2) ?_;clear hK K
 try simp only [Act.put,putL_a,putL_z,putL_s]
 refine Ze (i:=7) rfl (by kernel_rfl) (fun K hK=>?_);go_simp;refine hK.out _ _ (fun _=>a2) ?_;clear hK K
 try simp only [Act.put,putL_a,putL_z,putL_s]
 refine Ze (i:=8) rfl (by kernel_rfl) (fun K hK=>?_);go_simp;refine hK.out _ _ (fun _=>a2) ?_;clear hK K
 try simp only [Act.put,putL_a,putL_z,putL_s]
 refine Ze (i:=9) rfl (by kernel_rfl) (fun K hK=>?_);go_simp;refine hK.out _ _ (fun _=>a2) ?_;clear hK K
 try simp only [Act.put,putL_a,putL_z,putL_s]
 refine Ze (i:=10) rfl (by kernel_rfl) (fun K hK=>?_);go_simp;refine hK.out _ _ (fun _=>a2) ?_;clear hK K
 try simp only [Act.put,putL_a,putL_z,putL_s]
 refine Ze (i:=11) rfl (by kernel_rfl) (fun K hK=>?_);go_simp;refine hK.out _ _ (fun _=>a2) ?_;clear hK K
 try simp only [Act.put,putL_a,putL_z,putL_s]
 refine Ze (i:=12) rfl (by kernel_rfl) (fun K hK=>?_);go_simp;refine hK.out _ _ (fun _=>a2) ?_;clear hK K
 try simp only [Act.put,putL_a,putL_z,putL_s]
 refine Zd (i:=13) (v:=undef) rfl (by kernel_rfl) (by kernel_rfl) (by kernel_rfl) (by kernel_rfl) (by kernel_rfl) (Or.inr ⟨by rfl,rfl⟩) a2 ?_
 try simp only [Act.put,putL_a,putL_z,putL_s]
 refine Ze (i:=14) rfl (by kernel_rfl) (fun K hK=>?_);go_simp;refine hK.out _ _ (fun _=>a2) ?_;clear hK K
 try simp only [Act.put,putL_a,putL_z,putL_s]
 refine Ze (i:=15) rfl (by kernel_rfl) (fun K hK=>?_);go_simp;refine hK.out _ _ (fun _=>a2) ?_;clear hK K
 try simp only [Act.put,putL_a,putL_z,putL_s]
 refine Ze (i:=16) rfl (by kernel_rfl) (fun K hK=>?_);go_simp;refine hK.out _ _ (fun _=>a2) ?_;clear hK K
 try simp only [Act.put,putL_a,putL_z,putL_s]
 refine Ze (i:=17) rfl (by kernel_rfl) (fun K hK=>?_);go_simp;refine hK.out _ _ (fun _=>a2) ?_;clear hK K
 try simp only [Act.put,putL_a,putL_z,putL_s]
 refine Zj (by kernel_rfl) ?_ _;refine OnlyNormal.normal ?_;go_wp2_with fail;go_ret;exact ⟨rfl,Zi hB4 1⟩
theorem Znm (na:Bool) (A B:Option Addr) (n c d:Nat) (za:Int) (w:World) (ha:Wd w na A n c za) (hb:Wd w false B 0 d 0) :
    Calls Tryz.prog 116 #[.agg #[.bool na,.slice A n c,.bool false,.slice B 0 d]] w fun e w'=>e=.returned (.int .i64 8)/\Below w.heap.size w w':=by
 have hmx:Tryz.prog.follows .mixedOrders=true:=by kernel_rfl
 have hgs:Nat.gcd za.natAbs (Int.natAbs 0) < pw 4096:=Zc9 ha.small hb.small;obtain ⟨W0,hW0,hB0,q0,s0⟩:=Zaw w 29 #[.bool na,.slice A n c,.bool false,.slice B 0 d];have hA:=Za (ha.below hB0);have hD:=Za (hb.below hB0);clear ha hb;obtain ⟨a0,a1,a2,a3,-⟩:=q0.four;go_enter Tryz.func116,Tryz.ntmps116;go_wp2_with fail;refine (Zjn na false A B n c 0 d za 0 W0 hA.out hD.out).mono ?_;rintro e w1 ⟨hb1,ng,Ag,kg,cg,code,rfl,hR⟩
 rcases hR with ⟨-,rfl,hgw⟩ | ⟨hbig,-⟩
 case inr=>exact absurd hbig (by omega)
 have hB1:Below w.heap.size w w1:=hB0.trans (hb1.mono hB0.size);replace q0:=Zc hb1 q0;clear hW0 a0 a1 a2 a3 hb1;obtain ⟨W4,hW4,hB4,q4,kW,kB,s4⟩:=Z5 27 #[.bool ng,.slice Ag kg cg] hB1 hB1.size;replace q0:=kB _ _ _ q0;obtain ⟨g0,g1,f0,f1⟩:=q4.two;obtain ⟨a0,a1,a2,a3,-⟩:=q0.four;go_wp2_with fail;refine Z8 [] (fun wx=>wx.cell? ⟨w.heap.size,2,none⟩=some (.bool false)/\wx.cell? ⟨w.heap.size,3,none⟩=some (.slice B 0 d)) hmx ⟨a2,a3⟩ (fun _=>?_);refine Ze (i:=0) rfl (by kernel_rfl) (fun K hK=>?_);go_simp;refine hK.out _ _ (fun _=>⟨a2,a3⟩) ?_;clear hK K
 try simp only [Act.put,putL_a,putL_z,putL_s]
 refine Ze (i:=1) rfl (by kernel_rfl) (fun K hK=>?_);go_simp;refine hK.out _ _ (fun _=>⟨a2,a3⟩) ?_;clear hK K
 try simp only [Act.put,putL_a,putL_z,putL_s]
 refine Ze (i:=2) rfl (by kernel_rfl) (fun K hK=>?_);go_simp;refine hK.out _ _ (fun _=>⟨a2,a3⟩) ?_;clear hK K
 try simp only [Act.put,putL_a,putL_z,putL_s]
 refine Ze (i:=3) rfl (by kernel_rfl) (fun K hK=>?_);go_simp;refine hK.out _ _ (fun _=>⟨a2,a3⟩) ?_;clear hK K
 try simp only [Act.put,putL_a,putL_z,putL_s]
 refine Ze (i:=4) rfl (by kernel_rfl) (fun K hK=>?_);go_simp;refine hK.out _ _ (fun _=>⟨a2,a3⟩) ?_;clear hK K
 try simp only [Act.put,putL_a,putL_z,putL_s]
 refine Ze (i:=5) rfl (by kernel_rfl) (fun K hK=>?_);go_simp;refine hK.out _ _ (fun _=>⟨a2,a3⟩) ?_;clear hK K
 try simp only [Act.put,putL_a,putL_z,putL_s]
 refine Ze (i:=6) rfl (by kernel_rfl) (fun K hK=>?_);go_simp;refine hK.out _ _ (fun _=>⟨a2,a3⟩) ?_;clear hK K
 try simp only [Act.put,putL_a,putL_z,putL_s]
 refine Ze (i:=7) rfl (by kernel_rfl) (fun K hK=>?_);go_simp;refine hK.out _ _ (fun _=>⟨a2,a3⟩) ?_;clear hK K
 try simp only [Act.put,putL_a,putL_z,putL_s]
 refine Ze (i:=8) rfl (by kernel_rfl) (fun K hK=>?_);go_simp;refine hK.out _ _ (fun _=>⟨a2,a3⟩) ?_;clear hK K
 try simp only [Act.put,putL_a,putL_z,putL_s]
 refine Ze (i:=9) rfl (by kernel_rfl) (fun K hK=>?_);go_simp;refine hK.out _ _ (fun _=>⟨a2,a3⟩) ?_;clear hK K
 try simp only [Act.put,putL_a,putL_z,putL_s]
 refine Ze (i:=10) rfl (by kernel_rfl) (fun K hK=>?_);go_simp;refine (Zhu _ _ _ _ _ (by omega) true rfl).mono ?_;rintro e w3 ⟨rfl,hb3⟩;have hb3':=Zq hb3;have k2:=Zb hb3' a2;have k3:=Zb hb3' a3;refine hK.out _ _ (fun _=>⟨k2,k3⟩) ?_;clear hK K
 try simp only [Act.put,putL_a,putL_z,putL_s]
 refine Ze (i:=11) rfl (by kernel_rfl) (fun K hK=>?_);go_simp;refine hK.out _ _ (fun _=>⟨k2,k3⟩) ?_;clear hK K
 try simp only [Act.put,putL_a,putL_z,putL_s]
 refine Ze (i:=12) rfl (by kernel_rfl) (fun K hK=>?_);go_simp;refine hK.out _ _ (fun _=>⟨k2,k3⟩) ?_;clear hK K
 try simp only [Act.put,putL_a,putL_z,putL_s]
 refine Zd (i:=13) (v:=undef) rfl (by kernel_rfl) (by kernel_rfl) (by kernel_rfl) (by kernel_rfl) (by kernel_rfl) (Or.inr ⟨by rfl,rfl⟩) ⟨k2,k3⟩ ?_
 try simp only [Act.put,putL_a,putL_z,putL_s]
 refine Ze (i:=14) rfl (by kernel_rfl) (fun K hK=>?_);go_simp;refine hK.out _ _ (fun _=>⟨k2,k3⟩) ?_;clear hK K
 try simp only [Act.put,putL_a,putL_z,putL_s]
 refine Ze (i:=15) rfl (by kernel_rfl) (fun K hK=>?_);go_simp;refine hK.out _ _ (fun _=>⟨k2,k3⟩) ?_;clear hK K
 try simp only [Act.put,putL_a,putL_z,putL_s]
 refine Ze (i:=16) rfl (by kernel_rfl) (fun K hK=>?_);go_simp;refine hK.out _ _ (fun _=>⟨k2,k3⟩) ?_;clear hK K
 try simp only [Act.put,putL_a,putL_z,putL_s]
 refine Ze (i:=17) rfl (by kernel_rfl) (fun K hK=>?_);go_simp;refine hK.out _ _ (fun _=>⟨k2,k3⟩) ?_;clear hK K
 try simp only [Act.put,putL_a,putL_z,putL_s]
 refine Zj (by kernel_rfl) ?_ _;refine OnlyNormal.normal ?_;go_wp2_with fail;go_ret;exact ⟨rfl,hB4.trans (hb3'.mono hB4.size)⟩
theorem Zo3 (na nb:Bool) (A B:Option Addr) (n c m d:Nat) (la lb:List Nat) (w:World) (ha:Lim w A n c la) (hb:Lim w B m d lb) (x:Bool) (hx:okF na la nb lb=x) :
    Calls Tryz.prog 116 #[.agg #[.bool na,.slice A n c,.bool nb,.slice B m d]] w fun e w'=>e=.returned (.int .i64 (Zft x))/\Below w.heap.size w w':=by
 cases x
 ·simp only [okF,Bool.and_eq_false_iff,Bool.not_eq_false',decide_eq_false_iff_not] at hx
  by_cases h1:(okW na la && okW nb lb)=true
  ·have h1':=h1
   rw [Bool.and_eq_true] at h1;have hA:=Wd.of_ok ha h1.1;have hD:=Wd.of_ok hb h1.2
   cases nb
   ·by_cases hz:0 < lb.length
    ·have e3:sg false (val lb)=(val lb:Nat):=rfl
     rw [e3] at hD;have h2:=(Zhh hb.lt).1 h1.2;have e2:(sg false (val lb)).natAbs=val lb:=Z6 _ _;rw [e2] at h2
     have hp:0 < val lb:=by
      rw [h2.2.2] at hz;exact length_digits_pos.1 hz
     refine Zi9 na A B n c m d _ _ w hA hD (by omega) false ?_;rw [Z6,Int.natAbs_natCast]
     rcases hx with (((hx | hx) | hx) | hx) | hx
     ·rw [h1.1] at hx;cases hx
     ·rw [h1.2] at hx;cases hx
     ·cases hx
     ·omega
     ·simp;omega
    ·have hl0:lb=[]:=List.eq_nil_of_length_eq_zero (by omega)
     subst hl0;have hm:m=0:=hb.len.symm;subst hm;exact Znm na A B n c d _ w hA hD
   ·exact Zno na A B n c m d _ _ w hA hD
  ·exact Znv na nb A B n c m d la lb w ha hb (by simpa using h1)
 ·exact Zdq na nb A B n c m d _ w (Zmv ha hb hx)
structure FX where
 na:Bool
 A:Option Addr
 n:Nat
 c:Nat
 la:List Nat
 nb:Bool
 B:Option Addr
 m:Nat
 d:Nat
 lb:List Nat
def FX.in_ (w:World) (e:FX):Prop:=Lim w e.A e.n e.c e.la/\Lim w e.B e.m e.d e.lb
def FX.ok (e:FX):Bool:=okF e.na e.la e.nb e.lb
def FX.q (e:FX):Rat:=qOf e.na e.la e.lb
def FX.few (e:FX):Nat:=max e.n e.m
def At4 (w:World) (g o:Nat) (na:Bool) (A:Option Addr) (n c:Nat) (nb:Bool) (B:Option Addr) (m d:Nat):Prop:=
 w.cell? ⟨g,o,none⟩=some (.bool na)/\w.cell? ⟨g,o+1,none⟩=some (.slice A n c)/\w.cell? ⟨g,o+2,none⟩=some (.bool nb)/\w.cell? ⟨g,o+3,none⟩=some (.slice B m d)
theorem At4.below {w w':World} {g o:Nat} {na:Bool} {A:Option Addr} {n c:Nat} {nb:Bool} {B:Option Addr} {m d:Nat} (h:At4 w g o na A n c nb B m d) (hb:Below w.heap.size w w'):At4 w' g o na A n c nb B m d:=
 ⟨Zb hb h.1,Zb hb h.2.1,Zb hb h.2.2.1,Zb hb h.2.2.2⟩
def FXL (w:World) (A:Option Addr) (n c:Nat) (es:List FX):Prop:=
 es.length=n/\n <= c/\c <= maxLen/\(∀ e ∈ es,e.in_ w)/\(0 < n->∃ g o,A=some ⟨g,o,none⟩/\∀ (k:Nat) (e:FX),es[k]?=some e->At4 w g (o+k * 4) e.na e.A e.n e.c e.nb e.B e.m e.d)
section
variable {w w':World} {A:Option Addr} {n c:Nat} {es:List FX}
theorem FX.in_below {e:FX} (h:e.in_ w) (hb:Below w.heap.size w w'):e.in_ w':=⟨h.1.below hb,h.2.below hb⟩
theorem FXL.below (h:FXL w A n c es) (hb:Below w.heap.size w w'):FXL w' A n c es:=by
 obtain ⟨h1,h2,h3,h4,h5⟩:=h;refine ⟨h1,h2,h3,fun e he=>FX.in_below (h4 e he) hb,fun hn=>?_⟩;obtain ⟨g,o,e1,hc⟩:=h5 hn;exact ⟨g,o,e1,fun k e he=>(hc k e he).below hb⟩
theorem FXL.at_ (h:FXL w A n c es) {k:Nat} (hk:k < n):∃ g o e,A=some ⟨g,o,none⟩/\es[k]?=some e/\At4 w g (o+k * 4) e.na e.A e.n e.c e.nb e.B e.m e.d/\Lim w e.A e.n e.c e.la/\Lim w e.B e.m e.d e.lb:=by
 obtain ⟨h1,-,-,h4,h5⟩:=h;obtain ⟨g,o,e1,hc⟩:=h5 (by omega);have he:=List.getElem?_eq_getElem (l:=es) (i:=k) (by omega);have hi:=h4 es[k] (List.getElem_mem _);exact ⟨g,o,es[k],e1,he,hc k _ he,hi.1,hi.2⟩
theorem FXL.fl (h:FXL w A n c es) (hk:∀ e ∈ es,e.ok=true):FL w A n c (es.map FX.q):=by
 obtain ⟨h1,h2,h3,h4,h5⟩:=h;refine ⟨es.map fun e=>⟨e.na,e.A,e.n,e.c,e.nb,e.B,e.m,e.d,e.q⟩,by simp [h1],h2,h3,fun e he=>?_,by rw [List.map_map];rfl,fun hn=>?_⟩
 ·obtain ⟨x,hx,rfl⟩:=List.mem_map.1 he
  exact Zmv (h4 x hx).1 (h4 x hx).2 (hk x hx)
 ·obtain ⟨g,o,e1,hc⟩:=h5 hn
  refine ⟨g,o,e1,fun k e he=>?_⟩;rw [List.getElem?_map] at he;obtain ⟨x,hx,rfl⟩:=Option.map_eq_some_iff.1 he;exact hc k x hx
end
structure RX where
 A:Option Addr
 n:Nat
 c:Nat
 es:List FX
def MXL (w:World) (A:Option Addr) (n c:Nat) (rs:List RX):Prop:=
 rs.length=n/\n <= c/\c <= maxLen/\(∀ r ∈ rs,FXL w r.A r.n r.c r.es)/\(0 < n->∃ g o,A=some ⟨g,o,none⟩/\∀ (k:Nat) (r:RX),rs[k]?=some r->w.cell? ⟨g,o+k,none⟩=some (.slice r.A r.n r.c))
def MFL (w:World) (A:Option Addr) (n c:Nat) (Q:List (List Rat)):Prop:=
 Q.length=n/\n <= c/\c <= maxLen/\(0 < n->∃ g o,A=some ⟨g,o,none⟩/\∀ (k:Nat) (q:List Rat),Q[k]?=some q->∃ A' n' c',w.cell? ⟨g,o+k,none⟩=some (.slice A' n' c')/\FL w A' n' c' q)
section
variable {w w':World} {A:Option Addr} {n c:Nat} {rs:List RX} {Q:List (List Rat)} {qs:List Rat}
theorem MXL.below (h:MXL w A n c rs) (hb:Below w.heap.size w w'):MXL w' A n c rs:=by
 obtain ⟨h1,h2,h3,h4,h5⟩:=h;refine ⟨h1,h2,h3,fun r hr=>(h4 r hr).below hb,fun hn=>?_⟩;obtain ⟨g,o,e1,hc⟩:=h5 hn;exact ⟨g,o,e1,fun k r hr=>Zb hb (hc k r hr)⟩
theorem MXL.at_ (h:MXL w A n c rs) {k:Nat} (hk:k < n):∃ g o r,A=some ⟨g,o,none⟩/\rs[k]?=some r/\w.cell? ⟨g,o+k,none⟩=some (.slice r.A r.n r.c)/\FXL w r.A r.n r.c r.es:=by
 obtain ⟨h1,-,-,h4,h5⟩:=h;obtain ⟨g,o,e1,hc⟩:=h5 (by omega);have he:=List.getElem?_eq_getElem (l:=rs) (i:=k) (by omega);exact ⟨g,o,rs[k],e1,he,hc k _ he,h4 rs[k] (List.getElem_mem _)⟩
theorem MXL.mfl (h:MXL w A n c rs) (hk:∀ r ∈ rs,∀ e ∈ r.es,e.ok=true):MFL w A n c (rs.map fun r=>r.es.map FX.q):=by
 obtain ⟨h1,h2,h3,h4,h5⟩:=h;refine ⟨by simp [h1],h2,h3,fun hn=>?_⟩;obtain ⟨g,o,e1,hc⟩:=h5 hn;refine ⟨g,o,e1,fun k q hq=>?_⟩;rw [List.getElem?_map] at hq;obtain ⟨r,hr,rfl⟩:=Option.map_eq_some_iff.1 hq;exact ⟨r.A,r.n,r.c,hc k r hr,(h4 r (List.mem_of_getElem? hr)).fl (hk r (List.mem_of_getElem? hr))⟩
theorem MFL.below (h:MFL w A n c Q) (hb:Below w.heap.size w w'):MFL w' A n c Q:=by
 obtain ⟨h1,h2,h3,h5⟩:=h;refine ⟨h1,h2,h3,fun hn=>?_⟩;obtain ⟨g,o,e1,hc⟩:=h5 hn;refine ⟨g,o,e1,fun k q hq=>?_⟩;obtain ⟨A',n',c',h6,h7⟩:=hc k q hq;exact ⟨A',n',c',Zb hb h6,h7.below hb⟩
theorem MFL.at_ (h:MFL w A n c Q) {k:Nat} (hk:k < n):∃ g o A' n' c',A=some ⟨g,o,none⟩/\w.cell? ⟨g,o+k,none⟩=some (.slice A' n' c')/\FL w A' n' c' (Q[k]?.getD []):=by
 obtain ⟨h1,-,-,h5⟩:=h;obtain ⟨g,o,e1,hc⟩:=h5 (by omega);have he:=List.getElem?_eq_getElem (l:=Q) (i:=k) (by omega);obtain ⟨A',n',c',h6,h7⟩:=hc k _ he;rw [he];exact ⟨g,o,A',n',c',e1,h6,h7⟩
theorem FL.len (h:FL w A n c qs):qs.length=n:=by obtain ⟨es,h1,-,-,-,h5,-⟩:=h;rw [<- h5,List.length_map,h1]
theorem FL.cap (h:FL w A n c qs):n <= c/\c <= maxLen:=by obtain ⟨es,h1,h2,h3,-⟩:=h;exact ⟨h2,h3⟩
theorem FL.at_ (h:FL w A n c qs) {k:Nat} (hk:k < n):∃ g o na A1 n1 c1 nb B m d,A=some ⟨g,o,none⟩/\At4 w g (o+k * 4) na A1 n1 c1 nb B m d/\Fr w na A1 n1 c1 nb B m d (qs[k]?.getD 0):=by
 obtain ⟨es,h1,-,-,h4,rfl,h5⟩:=h;obtain ⟨g,o,e1,hc⟩:=h5 (by omega);have he:=List.getElem?_eq_getElem (l:=es) (i:=k) (by omega);refine ⟨g,o,es[k].na,es[k].A,es[k].n,es[k].c,es[k].nb,es[k].B,es[k].m,es[k].d,e1,hc k _ he,?_⟩;rw [List.getElem?_map,he];exact h4 es[k] (List.getElem_mem _)
end
theorem Zox (z:Int):Rat.divInt z 1=(z:Rat):=by
 have h:=Rat.num_divInt_den ((z:Int):Rat);rw [Rat.num_intCast,Rat.den_intCast] at h;exact h
theorem Zt7 (z:Int) (w:World) (h1:-9223372036854775808 <= z) (h2:z <= 9223372036854775807) :
    Calls Tryz.prog 92 #[.int .i64 z] w (Zdi w (z:Rat)):=by
 obtain ⟨W0,hW0,hB0,q0,s0⟩:=Zaw w 99 #[.bool false,.slice none 0 0,.bool false,.slice none 0 0];obtain ⟨gR,hgR⟩:∃ g,w.heap.size=g:=⟨_,rfl⟩;rw [hgR] at q0;go_enter Tryz.func92,Tryz.ntmps92;go_wp2_with fail;(try rw [hW0]);refine (Zu2 z 1 W0 h1 h2 (by decide) (by decide)).mono ?_;rw [Zox];rintro e w1 ⟨hb1,pn,pA,pk,pc,pm,pB,pj,pd,rfl,hf⟩;replace q0:=Zc hb1 q0;go_wp2_with fail;refine (Zew pn pm pA pB pk pc pj pd _ w1 hf).mono ?_;rintro e w2 ⟨hb2,rn,rA,rk,rc,rm,rB,rj,rd,rfl,hr⟩;replace q0:=Zc hb2 q0;(try rw [hgR]);obtain ⟨c0,c1,c2,c3,z0,z1,z2,z3⟩:=q0.four;obtain ⟨W5,hW5,q5,hK5,s5⟩:=Zao rn rA rk rc rm rB rj rd q0;clear hf;go_wp2_with fail;(try rw [hW5]);obtain ⟨r0,r1,r2,r3,-⟩:=q5.four;refine bodyPost_ret (v:=.agg #[.bool rn,.slice rA rk rc,.bool rm,.slice rB rj rd]) (by simp [results,Tryz.results92,go_sem,r0,r1,r2,r3]) rfl ?_;refine ⟨?_,_,_,_,_,_,_,_,_,rfl,hr.keptN hK5 q0 (Zay _ _ _ _ _ _ _ _)⟩;have hB2:=hB0.trans ((hb1.trans (hb2.mono hb1.size)).mono hB0.size);exact hB2.trans (hK5.to_below (fun k e=>by omega) hB2.size)
theorem Zsz (z:Int) (w:World) :
    Calls Tryz.prog 192 #[.int .i64 z,.int .i64 0] w fun e w'=>e=.returned (.int .i64 z)/\w'=w:=by
 go_enter Tryz.func192,Tryz.ntmps192;go_wp2_with fail;refine (Zcu 0 w).mono ?_;rintro e w1 ⟨rfl,rfl⟩;go_wp2_with fail;go_returns;exact ⟨rfl,rfl⟩
theorem Zsx (na:Bool) (A:Option Addr) (n c:Nat) (z:Int) (w:World) (hz:Wd w na A n c z) :
    Calls Tryz.prog 193 #[.agg #[.bool na,.slice A n c]] w fun e w'=>e=.returned (.tuple #[.int .i64 (Zbo z 0),.int .i64 0])/\Below w.heap.size w w':=by
 obtain ⟨r,hr⟩:∃ r,Zbo z 0=r:=⟨_,rfl⟩;rw [hr];obtain ⟨W0,hW0,hB,q,sz⟩:=Zaw w 27 #[.bool na,.slice A n c];replace hz:=Za (hz.below hB);obtain ⟨s0,s1,-,-⟩:=q.two;go_enter Tryz.func193,Tryz.ntmps193;go_wp2_with fail;refine (Znb na false A none n c 0 0 z 0 W0 hz.out (Wd.zero _)).mono ?_;rintro e w1 ⟨rfl,hb1⟩;have hB1:=hB.trans (hb1.mono hB.size);rw [hr];replace hr:=Za hr;go_wp2_with fail;go_returns;exact ⟨rfl,hB1⟩
theorem Zgc (xn:Bool) (xA:Option Addr) (xk xc:Nat) (xm:Bool) (xB:Option Addr) (xj xd:Nat) (q:Rat) (w:World) (h:Fr w xn xA xk xc xm xB xj xd q) :
    Calls Tryz.prog 126 #[.agg #[.bool xn,.slice xA xk xc,.bool xm,.slice xB xj xd]] w fun e w'=>e=.returned (.int .i64 (Zbo q.num 0))/\Below w.heap.size w w':=by
 obtain ⟨W0,hW0,hB0,q0,s0⟩:=Zaw w 99 #[.bool xn,.slice xA xk xc,.bool xm,.slice xB xj xd];obtain ⟨a0,a1,a2,a3,-⟩:=q0.four;have hX:=h.below hB0;go_enter Tryz.func126,Tryz.ntmps126;go_wp2_with fail;(try rw [hW0]);refine (Zsx xn xA xk xc q.num W0 hX.1).mono ?_;rintro e w1 ⟨rfl,hb1⟩;go_wp2_with fail;refine (Zsz _ w1).mono ?_;rintro e w2 ⟨rfl,rfl⟩;go_wp2_with fail;go_returns;exact ⟨rfl,hB0.trans (hb1.mono hB0.size)⟩
def Zgy (a:Rat) (qs:List Rat):Nat->Rat
 | 0=>a
 | j+1=>Zgy a qs j * (qs[j]?.getD 0)
def sumF (qs:List Rat):Nat->Rat
 | 0=>0
 | j+1=>sumF qs j+(qs[j]?.getD 0)
theorem Zb4 (an:Bool) (aA:Option Addr) (ak ac:Nat) (am:Bool) (aB:Option Addr) (aj ad:Nat) (a:Rat) (L:Option Addr) (k cap:Nat) (qs:List Rat) (w:World) (ha:Fr w an aA ak ac am aB aj ad a) (hl:FL w L k cap qs) (hk:k <= 100) (hs:∀ j,j < k->Sm (Zgy a qs j)) (he:∀ j:Nat,j < k->Sm (qs[j]?.getD 0)) :
    Calls Tryz.prog 62 #[.agg #[.bool an,.slice aA ak ac,.bool am,.slice aB aj ad],.slice L k cap] w (Zdi w (Zgy a qs k)):=by
 have hcap:=hl.cap;unfold maxLen at hcap;obtain ⟨W0,hW0,hB0,⟨q0,q1⟩,s0⟩:=Zc7 w 99 #[.bool an,.slice aA ak ac,.bool am,.slice aB aj ad] 99 #[.bool false,.slice none 0 0,.bool false,.slice none 0 0];obtain ⟨g0,hg0⟩:∃ g,w.heap.size=g:=⟨_,rfl⟩;obtain ⟨gR,hgR⟩:∃ g,g0+1=g:=⟨_,rfl⟩;rw [hg0] at q0 q1 s0 hB0;rw [hgR] at q1;have hA:=ha.below (hg0 ▸ hB0);have hsz:Hid (W0.heap.size=gR+1):=Za (by rw [s0];omega);have hlH:=Za hl;have hsH:=Za hs;have heH:=Za he;have hg0H:=Za hg0;clear hl hs he;go_enter Tryz.func62,Tryz.ntmps62;go_wp2_with fail;(try rw [hW0]);(try rw [hg0]);(try rw [hgR]);have hgRH:=Za hgR;clear hW0 hg0 hgR
 go_loopg [9] k (fun t iv wr=>∃ (i:Nat) (xn:Bool) (xA:Option Addr) (xk xc:Nat) (xm:Bool) (xB:Option Addr) (xj xd:Nat),i+t=k/\iv=.int .i64 i/\Blk wr g0 99 #[.bool xn,.slice xA xk xc,.bool xm,.slice xB xj xd]/\Hid (Fr wr xn xA xk xc xm xB xj xd (Zgy a qs i))/\Kept (fun k=>k=g0) W0 wr)
 case atStart=>exact ⟨0,_,_,_,_,_,_,_,_,by omega,rfl,q0,Za hA,Kept.refl _ _⟩
 case round =>
  obtain ⟨i,xn,xA,xk,xc,xm,xB,xj,xd,hik,rfl,hb3,hX,hK⟩:=hrel;have hsz':=hsz.out;have hgR':=hgRH.out;have hbR:=hK.blk q1 (by omega);have hBwr:Below g0 w wr:=hB0.trans (hK.to_below (fun k hk=>by omega) (by omega));obtain ⟨x0,x1,x2,x3,y0,y1,y2,y3⟩:=hb3.four
  cases gk with
  | zero =>
   obtain rfl:i=k:=by omega
   have t1:decide ((i:Int) < (i:Int))=false:=by simp
   obtain ⟨c0,c1,c2,c3,z0,z1,z2,z3⟩:=hbR.four;obtain ⟨W5,hW5,q5,hK5,s5⟩:=Zao xn xA xk xc xm xB xj xd hbR;go_wp2_with fail;(try rw [hW5]);obtain ⟨r0,r1,r2,r3,-⟩:=q5.four;refine bodyPost_ret (v:=.agg #[.bool xn,.slice xA xk xc,.bool xm,.slice xB xj xd]) (by simp [results,Tryz.results62,go_sem,r0,r1,r2,r3]) rfl ?_;refine ⟨?_,_,_,_,_,_,_,_,_,rfl,hX.out.keptN hK5 hbR (Zay _ _ _ _ _ _ _ _)⟩;rw [hg0H.out];exact hBwr.trans (hK5.to_below (fun k e=>by omega) (by have:=hBwr.size;have:=hK.size;omega))
  | succ t =>
   obtain rfl:t=k - (i+1):=by omega
   have hin:i < k:=by omega
   have t1:decide ((i:Int) < (k:Int))=true:=decide_eq_true (by omega)
   have bi:(i:Int) < (k:Int):=by omega
   obtain ⟨gl,o,yn,yA,yk,yc,ym,yB,yj,yd,rfl,⟨c0,c1,c2,c3⟩,hY⟩:=(hlH.out.below (hg0H.out ▸ hBwr)).at_ hin;obtain ⟨W1,hW1,hB1,p1,s1⟩:=Zaw wr 99 #[.bool false,.slice none 0 0,.bool false,.slice none 0 0];obtain ⟨gn,hgn⟩:∃ g,wr.heap.size=g:=⟨_,rfl⟩;rw [hgn] at p1 s1;have hb31:=Zc hB1 hb3;obtain ⟨u0,u1,u2,u3,v0,v1,v2,v3⟩:=p1.four;obtain ⟨W2,hW2,p2,hK2,s2⟩:=Zao yn yA yk yc ym yB yj yd p1;have hB2:Below wr.heap.size wr W2:=hB1.trans (hK2.to_below (fun k e=>by omega) hB1.size);have hX2:=hX.out.below hB2;have hY2:=hY.below hB2;have hb32:=Zc hB2 hb3;obtain ⟨m0,m1,m2,m3,n0,n1,n2,n3⟩:=hb32.four;obtain ⟨o0,o1,o2,o3,-⟩:=p2.four;have e0:=Zb hB1 c0;have e1:=Zb hB1 c1;have e2:=Zb hB1 c2;have e3:=Zb hB1 c3;go_wp2_with fail;(try rw [hW2]);go_wp2_with fail;refine (fMul_ok xn xm yn ym xA xB yA yB xk xc xj xd yk yc yj yd _ _ W2 hX2 hY2 (hsH.out i hin) (heH.out i hin)).mono ?_;rintro e w3 ⟨hb3',pn,pA,pk,pc,pm,pB,pj,pd,rfl,hf⟩;go_wp2_with fail;refine (Zew pn pm pA pB pk pc pj pd _ w3 hf).mono ?_;rintro e w4 ⟨hb4,rn,rA,rk,rc,rm,rB,rj,rd,rfl,hr⟩;have hb34:=Zc hb4 (Zc hb3' hb32);obtain ⟨m0',m1',m2',m3',n0',n1',n2',n3'⟩:=hb34.four;obtain ⟨W5,hW5,q5,hK5,s5⟩:=Zao rn rA rk rc rm rB rj rd hb34;clear x0 x1 x2 x3 y0 y1 y2 y3 m0 m1 m2 m3 n0 n1 n2 n3 o0 o1 o2 o3 u0 u1 u2 u3 v0 v1 v2 v3 e0 e1 e2 e3 c0 c1 c2 c3;go_wp2_with fail;(try rw [hW5]);have hF5:=Za (hr.keptN hK5 hb34 (Zay _ _ _ _ _ _ _ _));have hK6:Kept (fun k=>k=g0) W0 W5:=((hK.below hB2).below (hb3'.trans (hb4.mono hb3'.size))).trans hK5
   go_roundg (k - (i+1))
   case measure=>omega
   case rel=>exact ⟨i+1,_,_,_,_,_,_,_,_,by omega,by go_num,q5,hF5,hK6⟩
section
variable {t:TypeId} {w w':World} {base:Nat} {v:Value} {es:List WE}
end
section
variable {P:Program} (w:World)
end
section
variable {t:TypeId} {w w':World} {base:Nat} {v:Value} {xs:List Int}
end
section
variable {P:Program} (w:World)
end
structure RS where
 A:Option Addr
 n:Nat
 c:Nat
def RS.val (r:RS):Value:=.slice r.A r.n r.c
def Zan:List RS->List Value
 | []=>[]
 | e :: l=>.slice e.A e.n e.c :: Zan l
def Zcd (es:List RS):Array Value:=(Zan es).toArray
def Zfe:RS:=⟨none,0,0⟩
theorem Za2 (es:List RS):(Zan es).length=es.length * 1:=by
 induction es with
 | nil=>rfl
 | cons e l ih=>simp only [Zan,List.length_cons,ih];omega
theorem Zek (es:List RS):Zan es=es.map RS.val:=by
 induction es with
 | nil=>rfl
 | cons e l ih=>simp only [Zan,List.map_cons,ih];rfl
theorem Zqc {es:List RS} {i:Nat} {e:RS} (h:es[i]?=some e):(Zan es)[i]?=some (.slice e.A e.n e.c):=by
 rw [Zek,List.getElem?_map,h];rfl
theorem Zis {es:List RS} {i:Nat} {e:RS} (h:es[i]?=some e):(Zcd es)[i]?=some (.slice e.A e.n e.c):=by simpa [Zcd] using Zqc h
theorem Zk1 (es:List RS):∀ (i x:Nat),(Zan es)[i]? ≠ some (limb x):=by
 intro i x;rw [Zek,List.getElem?_map]
 cases es[i]? with
 | none=>simp
 | some e=>simp [RS.val]
theorem Zfz (es:List RS):NoLimb (Zcd es):=fun i x=>by simpa [Zcd] using Zk1 es i x
theorem Zch (es fs:List RS):Zan (es ++ fs)=Zan es ++ Zan fs:=by simp only [Zek,List.map_append]
theorem Zqg (fs:List RS):∀ u ∈ Zan fs,u.oneCell'=true:=by
 intro u h;rw [Zek] at h;obtain ⟨r,-,rfl⟩:=List.mem_map.1 h
 rfl
theorem Zgw (k:Nat):(Builtin.zeroCells #[.slice none 0 0] k).toList=Zan (List.replicate k Zfe):=by
 rw [Zek];unfold Builtin.zeroCells
 apply List.ext_getElem?
 intro i
 by_cases h:i < k
 ·simp [h,Zfe,RS.val,List.getElem?_replicate,Nat.mod_one]
 ·simp [h,List.getElem?_replicate]
def RowS (t:TypeId) (w:World) (base:Nat) (v:Value) (es:List RS):Prop:=
 (v=.slice none 0 0/\es=[]) \/ ∃ g sp,v=.slice (some ⟨g,0,none⟩) es.length (es.length+sp)/\base <= g/\es.length+sp <= maxLen/\Blk w g t (Zcd (es ++ List.replicate sp Zfe))
section
variable {t:TypeId} {w w':World} {base:Nat} {v:Value} {es:List RS}
theorem RowS.own (h:RowS t w base v es):w.ownsRow base t 1 v es.length (Zan es):=by
 refine ⟨Za2 es,?_⟩
 rcases h with ⟨h1,rfl⟩ | ⟨g,sp,h1,h2,h3,h4⟩
 ·exact .inl ⟨h1,rfl⟩
 ·refine .inr ⟨g,_,_,h1,h2,h4,Nat.le_add_right _ _,h3,?_,?_⟩
  ·simp [Zcd,Za2]
  ·simp only [Zcd]
   rw [Zch,<- Za2 es];exact List.take_left
theorem RowS.row_ge (h:RowS t w base v es):∀ k,v.ownBlock=some k->base <= k:=fun k hk=>(h.own.lt k hk).1
theorem RowS.kept (h:RowS t w base v es) (hb:Below w.heap.size w w'):RowS t w' base v es:=by
 rcases h with h | ⟨g,sp,h1,h2,h3,h4⟩
 ·exact .inl h
 ·exact .inr ⟨g,sp,h1,h2,h3,Zc hb h4⟩
theorem RowS.keep (h:RowS t w base v es) (hg:w.grownBy w' v.ownBlock) {A:Option Addr} {n c:Nat} {l:List Nat} (hL:Lim w A n c l):Lim w' A n c l:=by
 refine ⟨hL.1,hL.2.1,hL.2.2.1,hL.2.2.2.1,fun hn=>?_⟩;obtain ⟨b,o,e,hc⟩:=hL.2.2.2.2 hn;refine ⟨b,o,e,fun k hk=>?_⟩;rw [<- hc k hk];refine World.cell?_of_block (hg.block b (Z0 (hc k hk)) (fun e'=>?_))
 rcases h with ⟨rfl,_⟩ | ⟨g,sp,rfl,_,_,h4⟩
 ·cases e'
 ·have hbg:b=g:=by simpa [Value.ownBlock] using e'
  subst hbg;have h1:=hc k hk;rw [h4.cell] at h1;exact Zfz _ _ _ h1
end
section
variable {P:Program} (w:World)
theorem Zj3 (base:Nat) (t ty e:TypeId) (i:TypeInfo) (ht:P.underlying t=some (.slice e)) (hi:P.info? e=some i) (hz:i.zero=some (.slice none 0 0))
    (hs:i.size=1) (hby:i.bytes=24) (v:Value) (es:List RS) (hown:RowS e w base v es)
    (B:Nat) (A:Option Addr) (m c:Nat) (fs:List RS) (hr:Reads w B 1 A m (Zan fs)) (hm:fs.length=m) (h63:es.length+m <= 1000) (hbase:base <= w.heap.size) :
    ∃ v' w',(Builtin.append_ #[t,t] ty #[v,.slice A m c]).run P w=.ok v' w'/\RowS e w' base v' (es ++ fs)/\w.grownBy w' v.ownBlock:=by
 rcases Nat.eq_zero_or_pos m with h0 | h0
 ·subst h0
  obtain rfl:fs=[]:=List.eq_nil_of_length_eq_zero hm;rw [List.append_nil]
  rcases A with _ | ad
  ·exact ⟨v,w,Zck w base t ty e i 1 ht hi v _ _ hown.own c,hown,World.grownBy.refl w _⟩
  ·have hf:=run_firstCells_some (P:=P) w i.size 0 ad 0 c [] (by simp) (by simp)
   rcases hown with ⟨rfl,rfl⟩ | ⟨g,sp,rfl,h2,h3,h4⟩
   ·refine ⟨.slice none 0 0,w,?_,.inl ⟨rfl,rfl⟩,World.grownBy.refl w _⟩
    simp [Builtin.append_,run_underlying ht,sizeOf,typeInfo,hi,Builtin.lenOf,Builtin.firstCells,loadCells,loadCellsFrom]
   ·refine ⟨_,w,?_,.inr ⟨g,sp,rfl,h2,h3,h4⟩,World.grownBy.refl w _⟩
    simp [Builtin.append_,run_underlying ht,sizeOf,typeInfo,hi,Builtin.lenOf,Builtin.firstCells,loadCells,loadCellsFrom,storeCells]
 ·obtain ⟨ad,rfl,_,hc⟩:=hr.2 h0
  have hl:(Zan fs).length=m * i.size:=by rw [Za2,hm,hs]
  have hle:es.length * i.size=(Zan es).length:=by rw [Za2,hs]
  rcases hown with ⟨rfl,rfl⟩ | ⟨g,sp,rfl,h2,h3,h4⟩
  ·have hrun:=run_append_nil (P:=P) w t ty e i _ ht hi hz ad m c (Zan fs) hl hc h0 (by omega) (by rw [hby];omega)
   have hge:=grownCap_ge w m 0 e;have hcm:=grownCap_le_maxLen w m 0 e (by unfold maxLen;simp only [List.length_nil] at h63;omega);refine ⟨_,_,hrun,.inr ⟨w.heap.size,grownCap w m 0 e - m,?_,hbase,?_,?_⟩,⟨rfl,rfl,rfl,by simp,fun k hk _=>Below.heap_alloc w.drew _ k hk⟩⟩
   ·rw [List.nil_append,hm,Nat.add_sub_cancel' hge]
   ·rw [List.nil_append,hm,Nat.add_sub_cancel' hge];exact hcm
   ·have:=heap_alloc_new w.drew (.cells ((Zan fs).toArray ++ Builtin.zeroCells (Value.slice none 0 0).cells (grownCap w m 0 e - m)) e)
    unfold Blk;refine this.trans ?_
    congr 1
    have hx:(Zan fs).toArray ++ Builtin.zeroCells (Value.slice none 0 0).cells (grownCap w m 0 e - m)=Zcd ([] ++ fs ++ List.replicate (grownCap w m 0 e - m) Zfe):=by
     apply Array.toList_inj.1
     rw [Array.toList_append,show (Value.slice none 0 0).cells=#[.slice none 0 0] from rfl,Zgw]
     simp [Zcd,Zch]
    rw [hx]
  ·by_cases hroom:m <= sp
   ·have hrun:=run_append_room (P:=P) w t ty e i ht hi g es.length (es.length+sp) _ h4 ad m c (Zan fs) hl hc (Zqg fs) (by omega) (by rw [hle,Za2,Za2];simp [Zcd,Za2];omega)
    refine ⟨_,_,hrun,.inr ⟨g,sp - m,?_,h2,?_,?_⟩,⟨rfl,rfl,rfl,by simp [World.setRow],fun k _ hk=>setRow_other w g k _ (fun e'=>hk (by simp [Value.ownBlock,e']))⟩⟩
    ·rw [List.length_append,hm,show es.length+m+(sp - m)=es.length+sp by omega]
    ·rw [List.length_append,hm];omega
    ·refine (setRow_heap w g _ _ e _ h4).trans ?_
     congr 2
     unfold Zcd
     congr 1
     rw [hle]
     have hrep:List.replicate sp Zfe=List.replicate m Zfe ++ List.replicate (sp - m) Zfe:=by rw [List.replicate_append_replicate];congr 1;omega
     have hlm:(Zan fs).length=(Zan (List.replicate m Zfe)).length:=by rw [Za2,Za2,hm,List.length_replicate]
     simp only [Zch];rw [List.take_left,hlm,<- List.length_append,hrep,Zch,<- List.append_assoc (Zan es),List.drop_left,List.append_assoc]
   ·have holds:∀ j u,(Zan es)[j]?=some u->w.cell? ((⟨g,0,none⟩:Addr).add j)=some u:=fun j u hu=>by
      rw [Zf,Nat.zero_add,h4.cell];simp only [Zcd,List.getElem?_toArray,Zch];rw [List.getElem?_append_left (by rw [List.getElem?_eq_some_iff] at hu;exact hu.1)];exact hu
    have hrun:=run_append_grow (P:=P) w t ty e i _ ht hi hz ⟨g,0,none⟩ es.length (es.length+sp) (Zan es) hle.symm holds ad m c (Zan fs) hl hc (by omega) (by omega) (growslice_fits (by omega) (by rw [hby];omega));have hge:=grownCap_ge w (es.length+m) (es.length+sp) e;have hcm:=grownCap_le_maxLen w (es.length+m) (es.length+sp) e (by unfold maxLen;omega);refine ⟨_,_,hrun,.inr ⟨w.heap.size,grownCap w (es.length+m) (es.length+sp) e - (es.length+m),?_,hbase,?_,?_⟩,⟨rfl,rfl,rfl,by simp,fun k hk _=>Below.heap_alloc w.drew _ k hk⟩⟩
    ·rw [List.length_append,hm,Nat.add_sub_cancel' hge]
    ·rw [List.length_append,hm,Nat.add_sub_cancel' hge];exact hcm
    ·have:=heap_alloc_new w.drew (.cells ((Zan es).toArray ++ (Zan fs).toArray ++ Builtin.zeroCells (Value.slice none 0 0).cells (grownCap w (es.length+m) (es.length+sp) e - (es.length+m))) e)
     unfold Blk;refine this.trans ?_
     congr 1
     have hx:(Zan es).toArray ++ (Zan fs).toArray ++ Builtin.zeroCells (Value.slice none 0 0).cells (grownCap w (es.length+m) (es.length+sp) e - (es.length+m))=Zcd (es ++ fs ++ List.replicate (grownCap w (es.length+m) (es.length+sp) e - (es.length+m)) Zfe):=by
      apply Array.toList_inj.1
      rw [Array.toList_append,Array.toList_append,show (Value.slice none 0 0).cells=#[.slice none 0 0] from rfl,Zgw]
      simp [Zcd,Zch]
     rw [hx]
end
def Z4:Nat->(Nat->Rat)->Rat
 | 0,_=>0
 | n+1,f=>Z4 n f+f n
def Zb3 (i a:Nat):Nat:=if a < i then a else a+1
def sgnQ (i:Nat):Rat:=if i % 2=0 then 1 else -1
def Zax:Nat->(Nat->Nat->Rat)->Rat
 | 0,_=>1
 | n+1,M=>Z4 (n+1) fun i=>sgnQ i * M i 0 * Zax n (fun a b=>M (Zb3 i a) (b+1))
theorem Zx {n:Nat} {f g:Nat->Rat} (h:∀ i,i < n->f i=g i):Z4 n f=Z4 n g:=by
 induction n with
 | zero=>rfl
 | succ n ih=>simp only [Z4];rw [ih (fun i hi=>h i (by omega)),h n (by omega)]
theorem Zd8 {n:Nat} (f g:Nat->Rat) (x y:Rat):Z4 n (fun i=>x * f i+y * g i)=x * Z4 n f+y * Z4 n g:=by
 induction n with
 | zero=>simp only [Z4];grind
 | succ n ih=>simp only [Z4];rw [ih];grind
theorem Zgt {n:Nat} {f:Nat->Rat} (h:∀ i,i < n->f i=0):Z4 n f=0:=by
 induction n with
 | zero=>rfl
 | succ n ih=>simp only [Z4];rw [ih (fun i hi=>h i (by omega)),h n (by omega)];grind
theorem Zf9 {n:Nat} {f:Nat->Rat} (k:Nat) (hk:k < n) (h:∀ i,i < n->i ≠ k->f i=0):Z4 n f=f k:=by
 induction n with
 | zero=>omega
 | succ n ih =>
  simp only [Z4]
  by_cases hn:k=n
  ·subst hn
   rw [Zgt (fun i hi=>h i (by omega) (by omega))];grind
  ·rw [ih (by omega) (fun i hi=>h i (by omega)),h n (by omega) (by omega)];grind
theorem Ztw {n:Nat} {f:Nat->Rat} (k:Nat) (hk:k+1 < n) (h:∀ i,i < n->i ≠ k->i ≠ k+1->f i=0):Z4 n f=f k+f (k+1):=by
 induction n with
 | zero=>omega
 | succ n ih =>
  simp only [Z4]
  by_cases hn:k+1=n
  ·subst hn
   rw [Zf9 k (by omega) (fun i hi h2=>h i (by omega) h2 (by omega))]
  ·rw [ih (by omega) (fun i hi=>h i (by omega)),h n (by omega) (by omega) (by omega)];grind
theorem Znq {i a n:Nat} (ha:a < n):Zb3 i a < n+1:=by unfold Zb3;split <;> omega
theorem Ztd (i a:Nat):Zb3 i a ≠ i:=by unfold Zb3;split <;> omega
theorem Zg7 {i k:Nat} (h:k ≠ i):Zb3 i (if k < i then k else k - 1)=k:=by
 unfold Zb3
 by_cases h1:k < i
 ·rw [if_pos h1,if_pos h1]
 ·rw [if_neg h1,if_neg (by omega)];omega
theorem Zst {i a b:Nat} (h:Zb3 i a=Zb3 i b):a=b:=by unfold Zb3 at h;split at h <;> split at h <;> omega
theorem Za4 {n:Nat} {M N:Nat->Nat->Rat} (h:∀ a b,a < n->b < n->M a b=N a b):Zax n M=Zax n N:=by
 induction n generalizing M N with
 | zero=>rfl
 | succ n ih =>
  simp only [Zax]
  refine Zx fun i hi=>?_
  rw [h i 0 hi (by omega),ih (fun a b ha hb=>h _ _ (Znq ha) (by omega))]
def Zad (M:Nat->Nat->Rat) (k:Nat) (r:Nat->Rat):Nat->Nat->Rat:=fun a b=>if a=k then r b else M a b
theorem Zep {M:Nat->Nat->Rat} {k i:Nat} {r:Nat->Rat} (h:k ≠ i) :
    (fun a b=>Zad M k r (Zb3 i a) (b+1))=Zad (fun a b=>M (Zb3 i a) (b+1)) (if k < i then k else k - 1) (fun b=>r (b+1)):=by
 funext a b
 unfold Zad
 by_cases ha:a=(if k < i then k else k - 1)
 ·rw [if_pos ha,ha,Zg7 h,if_pos rfl]
 ·rw [if_neg ha,if_neg]
  intro e;exact ha (Zst (i:=i) (by rw [e,Zg7 h]))
theorem Zeq {M:Nat->Nat->Rat} {k:Nat} {r:Nat->Rat}:(fun a b=>Zad M k r (Zb3 k a) (b+1))=(fun a b=>M (Zb3 k a) (b+1)):=by
 funext a b
 unfold Zad;rw [if_neg (Ztd k a)]
theorem Zfw {n:Nat} (M:Nat->Nat->Rat) {k:Nat} (hk:k < n) (r s:Nat->Rat) (x y:Rat) :
    Zax n (Zad M k (fun b=>x * r b+y * s b))=x * Zax n (Zad M k r)+y * Zax n (Zad M k s):=by
 induction n generalizing M k r s with
 | zero=>omega
 | succ n ih =>
  simp only [Zax];rw [<- Zd8]
  refine Zx fun i hi=>?_
  by_cases h:k=i
  ·subst h
   rw [Zeq,Zeq,Zeq];simp only [Zad,if_true]
   grind
  ·rw [Zep h,Zep h,Zep h]
   rw [ih (fun a b=>M (Zb3 i a) (b+1)) (k:=if k < i then k else k - 1) (by split <;> omega) (fun b=>r (b+1)) (fun b=>s (b+1))];simp only [Zad,if_neg (show ¬ i=k from fun e=>h e.symm)]
   grind
theorem Zrq (i:Nat):sgnQ (i+1)=- sgnQ i:=by
 unfold sgnQ
 rcases Nat.mod_two_eq_zero_or_one i with h | h
 ·rw [if_pos h,if_neg (by omega)]
 ·rw [if_neg (by omega:¬ i % 2=0),if_pos (by omega)];grind
theorem Znw {n:Nat} {M:Nat->Nat->Rat} {k:Nat} (hk:k+1 < n) (h:∀ b,M (k+1) b=M k b):Zax n M=0:=by
 induction n generalizing M k with
 | zero=>omega
 | succ n ih =>
  simp only [Zax];rw [Ztw k hk]
  ·have hm:(fun a b=>M (Zb3 k a) (b+1))=(fun a b=>M (Zb3 (k+1) a) (b+1)):=by
     funext a b
     by_cases ha:a=k
     ·subst ha
      simp only [Zb3,if_neg (Nat.lt_irrefl a),if_pos (Nat.lt_succ_self a)];exact h _
     ·have:Zb3 k a=Zb3 (k+1) a:=by unfold Zb3;split <;> split <;> omega
      rw [this]
   rw [hm,h 0,Zrq];grind
  ·intro i hi h1 h2
   rw [ih (M:=fun a b=>M (Zb3 i a) (b+1)) (k:=if k < i then k else k - 1)]
   ·grind
   ·split <;> omega
   ·intro b
    have e1:Zb3 i (if k < i then k else k - 1)=k:=Zg7 (Ne.symm h1)
    have e2:Zb3 i ((if k < i then k else k - 1)+1)=k+1:=by unfold Zb3;split <;> split <;> omega
    rw [e1,e2];exact h _
theorem Zdn (M:Nat->Nat->Rat) (k:Nat):Zad M k (M k)=M:=by
 funext a b;unfold Zad;split
 ·rename_i h;rw [h]
 ·rfl
theorem Zbx (M:Nat->Nat->Rat) {k l:Nat} (h:k ≠ l) (r s:Nat->Rat):Zad (Zad M k r) l s=Zad (Zad M l s) k r:=by
 funext a b;unfold Zad
 by_cases h1:a=k
 ·subst h1;simp [h]
 ·simp [h1]
theorem Zj1 {n:Nat} (M:Nat->Nat->Rat) {k:Nat} (hk:k < n) (r s:Nat->Rat) :
    Zax n (Zad M k (fun b=>r b+s b))=Zax n (Zad M k r)+Zax n (Zad M k s):=by
 have:=Zfw M hk r s 1 1;rw [show (fun b=>r b+s b)=(fun b=>1 * r b+1 * s b) by funext b;grind,this];grind
theorem Zho {n:Nat} {k l:Nat} (hk:k < n) (hl:l < n) (hne:k ≠ l) (hz:∀ (M:Nat->Nat->Rat),(∀ b,M k b=M l b)->Zax n M=0) (M:Nat->Nat->Rat) (r s:Nat->Rat) :
    Zax n (Zad (Zad M k r) l s)=- Zax n (Zad (Zad M k s) l r):=by
 have h:=hz (Zad (Zad M k (fun b=>r b+s b)) l (fun b=>r b+s b)) (fun b=>by simp [Zad,hne]);have h1:=hz (Zad (Zad M k r) l r) (fun b=>by simp [Zad,hne]);have h2:=hz (Zad (Zad M k s) l s) (fun b=>by simp [Zad,hne]);rw [Zj1 _ hl,Zbx _ hne,Zbx _ hne,Zj1 _ hk,Zj1 _ hk,<- Zbx _ hne,<- Zbx _ hne,<- Zbx _ hne,<- Zbx _ hne,h1,h2] at h
 grind
theorem Ziz {n:Nat}:∀ (d:Nat) (M:Nat->Nat->Rat) (k:Nat),k+d+1 < n->(∀ b,M k b=M (k+d+1) b)->Zax n M=0:=by
 intro d
 induction d with
 | zero=>intro M k hk h;exact Znw hk (fun b=>(h b).symm)
 | succ d ih =>
  intro M k hk h;have h1:=Zho (n:=n) (k:=k+d+1) (l:=k+d+2) (by omega) (by omega) (by omega) (fun M h=>Znw (k:=k+d+1) (by omega) (fun b=>(h b).symm)) M (M (k+d+1)) (M (k+d+2));rw [Zdn,Zdn] at h1;rw [h1,ih _ k (by omega)]
  ·grind
  ·intro b
   have:=h b;rw [show k+(d+1)+1=k+d+2 by omega] at this;simp only [Zad];rw [if_neg (by omega),if_neg (by omega),if_neg (by omega)]
   simpa using this
theorem Zh6 {n:Nat} {M:Nat->Nat->Rat} {k l:Nat} (hk:k < n) (hl:l < n) (hne:k ≠ l) (h:∀ b,M k b=M l b):Zax n M=0:=by
 rcases Nat.lt_or_gt_of_ne hne with h1 | h1
 ·exact Ziz (l - k - 1) M k (by omega) (fun b=>by rw [show k+(l - k - 1)+1=l by omega];exact h b)
 ·exact Ziz (k - l - 1) M l (by omega) (fun b=>by rw [show l+(k - l - 1)+1=k by omega];exact (h b).symm)
theorem Zsm {n:Nat} (M:Nat->Nat->Rat) {k l:Nat} (hk:k < n) (hl:l < n) (hne:k ≠ l):Zax n (Zad (Zad M k (M l)) l (M k))=- Zax n M:=by
 have h:=Zho hk hl hne (fun M h=>Zh6 hk hl hne h) M (M l) (M k);rw [h]
 congr 1
 rw [Zdn]
 congr 1
 funext a b
 unfold Zad
 split
 ·rename_i h;rw [h]
 ·rfl
theorem Zn9 {n:Nat} (M:Nat->Nat->Rat) {k l:Nat} (hk:k < n) (hl:l < n) (hne:k ≠ l) (c:Rat):Zax n (Zad M k (fun b=>M k b+c * M l b))=Zax n M:=by
 have h:=Zfw M hk (M k) (M l) 1 c
 rw [show (fun b=>M k b+c * M l b)=(fun b=>1 * M k b+c * M l b) by funext b;grind,h,Zdn,
  Zh6 (M:=Zad M k (M l)) hk hl hne (fun b=>by simp [Zad,Ne.symm hne])]
 grind
theorem Zkj {n:Nat} (M:Nat->Nat->Rat) {l:Nat} (hl:l < n) (c:Nat->Rat):Zax n (fun a b=>if a=l then M a b else M a b+c a * M l b)=Zax n M:=by
 have key:∀ m,m <= n->Zax n (fun a b=>if a=l then M a b else if a < m then M a b+c a * M l b else M a b)=Zax n M:=by
  intro m
  induction m with
  | zero=>intro _;congr 1;funext a b;split <;> rfl
  | succ m ih =>
   intro hm;have h0:=ih (by omega)
   by_cases hml:m=l
   ·rw [<- h0];congr 1;funext a b
    by_cases ha:a=l
    ·simp [ha]
    ·rw [if_neg ha,if_neg ha]
     by_cases h1:a < m
     ·rw [if_pos h1,if_pos (by omega)]
     ·rw [if_neg h1,if_neg (by omega)]
   ·have h1:=Zn9 (n:=n) (fun a b=>if a=l then M a b else if a < m then M a b+c a * M l b else M a b) (k:=m) (l:=l) (by omega) hl hml (c m)
    rw [h0] at h1;rw [<- h1];congr 1;funext a b;unfold Zad
    by_cases ha:a=m
    ·subst ha;simp [hml]
    ·rw [if_neg ha]
     by_cases hal:a=l
     ·simp [hal]
     ·rw [if_neg hal]
      by_cases h1:a < m
      ·rw [if_pos (by omega)];simp [hal,h1]
      ·rw [if_neg (by omega)];simp [hal,h1]
 rw [<- key n (Nat.le_refl _)]
 exact Za4 fun a b ha hb=>by rw [if_pos ha]
def Zat:Nat->(Nat->Rat)->Rat
 | 0,_=>1
 | n+1,f=>Zat n f * f n
theorem Zcm {n:Nat} {f g:Nat->Rat} (h:∀ i,i < n->f i=g i):Zat n f=Zat n g:=by
 induction n with
 | zero=>rfl
 | succ n ih=>simp only [Zat];rw [ih (fun i hi=>h i (by omega)),h n (by omega)]
theorem Znj {n:Nat} (f:Nat->Rat):Zat (n+1) f=f 0 * Zat n (fun i=>f (i+1)):=by
 induction n generalizing f with
 | zero=>simp only [Zat];grind
 | succ n ih=>rw [Zat,ih,Zat];grind
theorem Zhv {n:Nat} {M:Nat->Nat->Rat} (h:∀ a b,a < n->b < a->M a b=0):Zax n M=Zat n (fun i=>M i i):=by
 induction n generalizing M with
 | zero=>rfl
 | succ n ih =>
  simp only [Zax];rw [Zf9 0 (by omega)]
  ·rw [Znj,ih]
   ·have:sgnQ 0=1:=rfl
    rw [this,Zcm (g:=fun i=>M (i+1) (i+1)) (fun i hi=>by simp only [Zb3];rw [if_neg (by omega)])];grind
   ·intro a b ha hb
    simp only [Zb3];rw [if_neg (by omega)];exact h _ _ (by omega) (by omega)
  ·intro i hi h0
   rw [h i 0 hi (by omega)];grind
def Zbc (Z:List (List Int)) (i j:Nat):Int:=(Z[i]?.getD [])[j]?.getD 0
def Zg (R:List (List Rat)) (i j:Nat):Rat:=(R[i]?.getD [])[j]?.getD 0
def Zas {α:Type} (l:List α) (i j:Nat):List α:=match l[i]?,l[j]? with
 | some x,some y=>(l.set i y).set j x
 | _,_=>l
def rowZ (p row:List Int) (col:Nat) (piv last:Int):List Int:=(List.range row.length).map fun k=>Int.fdiv (row[k]?.getD 0 * piv - row[col]?.getD 0 * p[k]?.getD 0) last
def Zff (Z:List (List Int)) (r col:Nat) (last:Int):List (List Int):=
 (List.range Z.length).map fun i=>if i <= r then Z[i]?.getD [] else rowZ (Z[r]?.getD []) (Z[i]?.getD []) col (Zbc Z r col) last
def Zkz (p row:List Rat) (col:Nat):List Rat:=(List.range row.length).map fun k=>if k < col then row[k]?.getD 0 else row[k]?.getD 0 - row[col]?.getD 0 / p[col]?.getD 0 * p[k]?.getD 0
def Za8 (R:List (List Rat)) (r col:Nat):List (List Rat):=(List.range R.length).map fun i=>if i <= r then R[i]?.getD [] else Zkz (R[r]?.getD []) (R[i]?.getD []) col
def Zbp (z:Nat->Bool) (n:Nat):Nat->Nat->Nat
 | 0,k=>k
 | f+1,k=>if k < n/\z k=true then Zbp z n f (k+1) else k
def Zcz:Nat->Nat->Nat->List (List Int)->Bool->Int->List (List Int) × Nat × Bool × Int
 | 0,_,r,Z,neg,last=>(Z,r,neg,last)
 | f+1,col,r,Z,neg,last =>
  if r=Z.length then (Z,r,neg,last)
  else if Zbp (fun i=>Zbc Z i col == 0) Z.length Z.length r=Z.length then Zcz f (col+1) r Z neg last
  else Zcz f (col+1) (r+1) (Zff (Zas Z (Zbp (fun i=>Zbc Z i col == 0) Z.length Z.length r) r) r col last) (neg != decide (Zbp (fun i=>Zbc Z i col == 0) Z.length Z.length r ≠ r)) (Zbc Z (Zbp (fun i=>Zbc Z i col == 0) Z.length Z.length r) col)
def Zbe:Nat->Nat->Nat->List (List Rat)->Bool->List (List Rat) × Nat × Bool
 | 0,_,r,R,neg=>(R,r,neg)
 | f+1,col,r,R,neg =>
  if r=R.length then (R,r,neg)
  else if Zbp (fun i=>Zg R i col == 0) R.length R.length r=R.length then Zbe f (col+1) r R neg
  else Zbe f (col+1) (r+1) (Za8 (Zas R (Zbp (fun i=>Zg R i col == 0) R.length R.length r) r) r col) (neg != decide (Zbp (fun i=>Zg R i col == 0) R.length R.length r ≠ r))
theorem Zed {z:Nat->Bool} {n:Nat}:∀ {f k:Nat},n <= k+f->k <= n->k <= Zbp z n f k/\Zbp z n f k <= n/\(∀ i,k <= i->i < Zbp z n f k->z i=true)/\(Zbp z n f k < n->z (Zbp z n f k)=false)
 | 0,k,h,hk=>by
  obtain rfl:k=n:=by omega
  exact ⟨Nat.le_refl _,Nat.le_refl _,fun i h1 h2=>by simp only [Zbp] at h2;omega,fun h=>by simp only [Zbp] at h;omega⟩
 | f+1,k,h,hk=>by
  unfold Zbp
  by_cases hc:k < n/\z k=true
  ·rw [if_pos hc]
   obtain ⟨h1,h2,h3,h4⟩:=Zed (z:=z) (n:=n) (f:=f) (k:=k+1) (by omega) (by omega);refine ⟨by omega,h2,fun i hi1 hi2=>?_,h4⟩
   by_cases hik:i=k
   ·rw [hik];exact hc.2
   ·exact h3 i (by omega) hi2
  ·rw [if_neg hc]
   refine ⟨Nat.le_refl _,hk,fun i h1 h2=>by omega,fun hkn=>?_⟩
   cases hz:z k with
   | false=>rfl
   | true=>exact absurd ⟨hkn,hz⟩ hc
theorem Zs8 {z:Nat->Bool} {n f k q:Nat} (h:n <= k+f) (hk:k <= q) (hq:q <= n) (h1:∀ i,k <= i->i < q->z i=true) (h2:q < n->z q=false):Zbp z n f k=q:=by
 obtain ⟨a,b,c,d⟩:=Zed (z:=z) h (Nat.le_trans hk hq)
 rcases Nat.lt_trichotomy (Zbp z n f k) q with h3 | h3 | h3
 ·have:=d (by omega);rw [h1 _ a h3] at this;cases this
 ·exact h3
 ·have:=c q hk h3;rw [h2 (by omega)] at this;cases this
theorem Znx {y z:Nat->Bool} {n f k:Nat} (h:n <= k+f) (hk:k <= n) (he:∀ i,k <= i->i < n->y i=z i):Zbp y n f k=Zbp z n f k:=by
 obtain ⟨a,b,c,d⟩:=Zed (z:=z) h hk;exact Zs8 h a b (fun i h1 h2=>by rw [he i h1 (by omega)];exact c i h1 h2) (fun h1=>by rw [he _ a h1];exact d h1)
def BndQ (B:Nat) (q:Rat):Prop:=∃ z:Int,q=(z:Rat)/\z.natAbs <= B
theorem BndQ.add {B C:Nat} {p q:Rat} (h:BndQ B p) (k:BndQ C q):BndQ (B+C) (p+q):=by
 obtain ⟨a,rfl,h1⟩:=h;obtain ⟨b,rfl,h2⟩:=k;exact ⟨a+b,by rw [Rat.intCast_add],by omega⟩
theorem BndQ.mul {B C:Nat} {p q:Rat} (h:BndQ B p) (k:BndQ C q):BndQ (B * C) (p * q):=by
 obtain ⟨a,rfl,h1⟩:=h;obtain ⟨b,rfl,h2⟩:=k;exact ⟨a * b,by rw [Rat.intCast_mul],by rw [Int.natAbs_mul];exact Nat.mul_le_mul h1 h2⟩
theorem BndQ.mono {B C:Nat} {q:Rat} (h:BndQ B q) (hBC:B <= C):BndQ C q:=by obtain ⟨a,h1,h2⟩:=h;exact ⟨a,h1,by omega⟩
def Za9 (B:Nat):Nat->Nat
 | 0=>1
 | n+1=>(n+1) * (B * Za9 B n)
theorem Zoz {B n:Nat} {f:Nat->Rat} (h:∀ i,i < n->BndQ B (f i)):BndQ (n * B) (Z4 n f):=by
 induction n with
 | zero=>exact ⟨0,rfl,by simp⟩
 | succ n ih=>rw [Nat.succ_mul];exact (ih fun i hi=>h i (by omega)).add (h n (by omega))
theorem Zuk (i:Nat):BndQ 1 (sgnQ i):=by unfold sgnQ;split;exact ⟨1,rfl,by decide⟩;exact ⟨-1,rfl,by decide⟩
theorem Zje {B n:Nat} {M:Nat->Nat->Rat} (h:∀ a b,a < n->b < n->BndQ B (M a b)):BndQ (Za9 B n) (Zax n M):=by
 induction n generalizing M with
 | zero=>exact ⟨1,rfl,by simp [Za9]⟩
 | succ n ih =>
  simp only [Zax,Za9]
  refine Zoz fun i hi=>?_
  have:=((Zuk i).mul (h i 0 hi (by omega))).mul (ih (M:=fun a b=>M (Zb3 i a) (b+1)) fun a b ha hb=>h _ _ (Znq ha) (by omega))
  rwa [Nat.one_mul] at this
theorem Zcx {B m n:Nat} (hB:1 <= B) (h:m <= n):Za9 B m <= Za9 B n:=by
 induction n with
 | zero=>obtain rfl:m=0:=by omega
         exact Nat.le_refl _
 | succ n ih =>
  by_cases hm:m=n+1
  ·rw [hm];exact Nat.le_refl _
  ·refine Nat.le_trans (ih (by omega)) ?_
   simp only [Za9]
   calc Za9 B n=1 * (1 * Za9 B n):=by simp
    _ <= (n+1) * (B * Za9 B n):=Nat.mul_le_mul (by omega) (Nat.mul_le_mul hB (Nat.le_refl _))
def swI (k r i:Nat):Nat:=if i=k then r else if i=r then k else i
theorem swI_swI (k r i:Nat):swI k r (swI k r i)=i:=by
 unfold swI
 by_cases h1:i=k
 ·subst h1
  by_cases h2:i=r
  ·simp [h2]
  ·simp [Ne.symm h2]
 ·by_cases h2:i=r
  ·subst h2;simp [h1]
  ·simp [h1,h2]
theorem Zey {α:Type} {l:List α} {k r:Nat} (hk:k < l.length) (hr:r < l.length) (i:Nat):(Zas l k r)[i]?=l[swI k r i]?:=by
 unfold Zas;rw [List.getElem?_eq_getElem hk,List.getElem?_eq_getElem hr];simp only;unfold swI;rw [List.getElem?_set,List.getElem?_set,List.length_set]
 by_cases h1:r=i
 ·subst h1
  rw [if_pos rfl,if_pos hr]
  by_cases h2:r=k
  ·subst h2;simp [hr]
  ·rw [if_neg h2,if_pos rfl,List.getElem?_eq_getElem hk]
 ·rw [if_neg h1]
  by_cases h2:k=i
  ·subst h2;simp [hk,hr]
  ·rw [if_neg h2,if_neg (Ne.symm h2),if_neg (Ne.symm h1)]
theorem Zig {α:Type} (l:List α) (k r:Nat):(Zas l k r).length=l.length:=by unfold Zas;split <;> simp
theorem Zil {k r i n:Nat} (hk:k < n) (hr:r < n) (hi:i < n):swI k r i < n:=by unfold swI;split <;> (try split) <;> omega
structure EIR (B S n m col r:Nat) (R:List (List Rat)) (pc:Nat->Nat) (G:Nat->Nat->Rat) (s:Nat->Rat):Prop where
 len:R.length=n
 row:∀ i,i < n->(R[i]?.getD []).length=m
 pcl:∀ l,l < r->pc l < col
 inc:∀ l l',l < l'->l' < r->pc l < pc l'
 low:∀ i j,r <= i->i < n->j < col->Zg R i j=0
 bef:∀ l j,l < r->j < pc l->Zg R l j=0
 piv:∀ l,l < r->Zg R l (pc l) ≠ 0
 rn:r <= n
 cm:col <= m
 sB:∀ i,i < n->BndQ S (s i)/\s i ≠ 0
 gB:∀ i j,i < n->BndQ B (G i j)
 det:∀ (N:Nat) (f σ:Nat->Nat),(∀ a,a < N->σ a < n)->(∀ a,a < r->σ a=a)->(∀ a,r <= a->r <= σ a)->Zax N (fun a b=>s (σ a) * Zg R (σ a) (f b))=Zax N (fun a b=>G (σ a) (f b))
def Zd0 (R:List (List Rat)) (pc:Nat->Nat) (s:Nat->Rat) (l:Nat):Rat:=Zat l (fun i=>s i * Zg R i (pc i))
section
variable {B S n m col r:Nat} {R:List (List Rat)} {pc:Nat->Nat} {G:Nat->Nat->Rat} {s:Nat->Rat}
theorem EIR.minor_eq (h:EIR B S n m col r R pc G s) {i:Nat} (hi:i < n) (j:Nat) :
    Zd0 R pc s (min i r) * (s i * Zg R i j)=Zax (min i r+1) (fun a b=>G (if a < min i r then a else i) (if b < min i r then pc b else j)):=by
 obtain ⟨q,hq⟩:∃ q,q=min i r:=⟨_,rfl⟩;rw [<- hq];have hrn:=h.rn
 have hd:=h.det (q+1) (fun b=>if b < q then pc b else j) (fun a=>if a < r then a else if i < r then a else i)
  (fun a ha=>by
   by_cases h1:a < r
   ·rw [if_pos h1];omega
   ·rw [if_neg h1];by_cases h2:i < r
    ·omega
    ·rw [if_neg h2];exact hi) (fun a ha=>by rw [if_pos ha]) (fun a ha=>by
   rw [if_neg (by omega)]
   by_cases h2:i < r
   ·rw [if_pos h2];exact ha
   ·rw [if_neg h2];omega)
 have hσ:∀ a,a < q+1->(if a < r then a else if i < r then a else i)=if a < q then a else i:=by
  intro a ha
  by_cases h1:a < q
  ·rw [if_pos h1,if_pos (by omega)]
  ·rw [if_neg h1]
   by_cases h2:i < r
   ·rw [if_pos (by omega)];omega
   ·rw [if_neg (by omega),if_neg h2]
 rw [<- Za4 (M:=fun a b=>G (if a < r then a else if i < r then a else i) (if b < q then pc b else j)) (N:=fun a b=>G (if a < q then a else i) (if b < q then pc b else j)) (fun a b ha hb=>by rw [hσ a ha])];rw [<- hd,Zhv]
 ·rw [Zat]
  unfold Zd0
  congr 1
  ·refine Zcm fun a ha=>?_
   rw [if_pos ha,if_pos (by omega)]
  ·rw [if_neg (Nat.lt_irrefl q)]
   have:=hσ q (Nat.lt_succ_self q);rw [if_neg (Nat.lt_irrefl q)] at this;rw [this]
 ·intro a b ha hb
  rw [if_pos (by omega:b < q),hσ a ha]
  by_cases h1:a < q
  ·rw [if_pos h1,h.bef a (pc b) (by omega) (h.inc b a hb (by omega))];grind
  ·rw [if_neg h1]
   by_cases h2:i < r
   ·rw [h.bef i (pc b) h2 (h.inc b i (by omega) h2)];grind
   ·rw [h.low i (pc b) (by omega) hi (h.pcl b (by omega))];grind
theorem EIR.minor (h:EIR B S n m col r R pc G s) {i:Nat} (hi:i < n) (j:Nat):BndQ (Za9 B (min i r+1)) (Zd0 R pc s (min i r) * (s i * Zg R i j)):=by
 rw [h.minor_eq hi j]
 refine Zje fun a b ha hb=>h.gB _ _ ?_
 split <;> omega
theorem EIR.piv_ne (h:EIR B S n m col r R pc G s) {l:Nat} (hl:l <= r):Zd0 R pc s l ≠ 0:=by
 induction l with
 | zero=>unfold Zd0 Zat;grind
 | succ l ih =>
  have h1:=ih (by omega);have h2:=h.piv l (by omega);have h3:=(h.sB l (by have:=h.rn;omega)).2;unfold Zd0 at h1 ⊢;rw [Zat];intro h0
  rcases Rat.mul_eq_zero.1 h0 with h0 | h0
  ·exact h1 h0
  ·rcases Rat.mul_eq_zero.1 h0 with h0 | h0
   ·exact h3 h0
   ·exact h2 h0
theorem EIR.pivL_bnd (h:EIR B S n m col r R pc G s) {l:Nat} (hl:l <= r):BndQ (Za9 B l) (Zd0 R pc s l):=by
 cases l with
 | zero=>exact ⟨1,rfl,by simp [Za9]⟩
 | succ l =>
  have h1:=h.minor (i:=l) (by have:=h.rn;omega) (pc l);rw [show min l r=l by omega] at h1;unfold Zd0 at h1 ⊢;rw [Zat];exact h1
theorem numQ_le (a b:Int) (h:b ≠ 0):(Rat.divInt a b).num.natAbs <= a.natAbs:=by
 rw [Rat.num_divInt,Int.natAbs_ediv_of_dvd]
 ·refine Nat.le_trans (Nat.div_le_self _ _) ?_
  rw [Int.natAbs_mul]
  rcases Int.lt_or_gt_of_ne h with g | g
  ·rw [Int.sign_eq_neg_one_of_neg g];simp
  ·rw [Int.sign_eq_one_of_pos g];simp
 ·exact Int.dvd_trans (Int.gcd_dvd_right _ _) (Int.dvd_mul_left _ _)
theorem Zgo {B C:Nat} {p q:Rat} (h:BndQ B (q * p)) (k:BndQ C q) (hq:q ≠ 0):p.num.natAbs <= B/\p.den <= C:=by
 obtain ⟨a,h1,h2⟩:=h;obtain ⟨b,h3,h4⟩:=k
 have hb:b ≠ 0:=by rintro rfl;rw [h3] at hq;exact hq rfl
 have hp:p=Rat.divInt a b:=by
  rw [Rat.divInt_eq_div,<- h1,h3]
  have:(b:Rat) ≠ 0:=by rw [<- h3];exact hq
  grind
 rw [hp]
 constructor
 ·exact Nat.le_trans (numQ_le a b hb) h2
 ·rw [Rat.den_divInt,if_neg hb]
  exact Nat.le_trans (Nat.div_le_self _ _) h4
theorem EIR.bound (h:EIR B S n m col r R pc G s) (hB:1 <= B) {i:Nat} (hi:i < n) (j:Nat):(Zg R i j).num.natAbs <= Za9 B n/\(Zg R i j).den <= Za9 B n * S:=by
 have h1:=h.minor hi j;have h2:=h.pivL_bnd (l:=min i r) (by omega);have h3:=h.sB i hi;have h4:=h.piv_ne (l:=min i r) (by omega);rw [<- Rat.mul_assoc] at h1
 have h5:=Zgo h1 (h2.mul h3.1) (fun h0=>by
  rcases Rat.mul_eq_zero.1 h0 with h0 | h0
  ·exact h4 h0
  ·exact h3.2 h0)
 have h6:=Zcx hB (show min i r+1 <= n by omega);have h7:=Zcx hB (show min i r <= n by omega);exact ⟨by omega,Nat.le_trans h5.2 (Nat.mul_le_mul h7 (Nat.le_refl _))⟩
theorem Zgk {k r:Nat} (hk:k < R.length) (hr:r < R.length) (i j:Nat):Zg (Zas R k r) i j=Zg R (swI k r i) j:=by
 unfold Zg;rw [Zey hk hr]
theorem Zjo {k r i:Nat} (hk:r <= k) (hi:i < r):swI k r i=i:=by unfold swI;rw [if_neg (by omega),if_neg (by omega)]
theorem Zm8 {k r i:Nat} (hk:r <= k) (hi:r <= i):r <= swI k r i:=by unfold swI;split <;> (try split) <;> omega
theorem EIR.skip (h:EIR B S n m col r R pc G s) (hc:col < m) (hz:∀ i,r <= i->i < n->Zg R i col=0):EIR B S n m (col+1) r R pc G s:=
 { h with
  pcl:=fun l hl=>by have:=h.pcl l hl;omega
  cm:=hc
  low:=fun i j hi hn hj=>by
   by_cases hjc:j=col
   ·rw [hjc];exact hz i hi hn
   ·exact h.low i j hi hn (by omega) }
theorem EIR.swap (h:EIR B S n m col r R pc G s) {k:Nat} (hk:k < n) (hrk:r <= k):EIR B S n m col r (Zas R k r) pc (fun i j=>G (swI k r i) j) (fun i=>s (swI k r i)):=by
 have hr:r < n:=by omega
 have hl:=h.len;have he:∀ i j,Zg (Zas R k r) i j=Zg R (swI k r i) j:=Zgk (by omega) (by omega)
 have hlt:∀ {i},i < n->swI k r i < n:=fun hi=>Zil hk hr hi
 refine ⟨by rw [Zig];exact hl,fun i hi=>by rw [Zey (by omega) (by omega)];exact h.row _ (hlt hi),h.pcl,h.inc,fun i j hi hn hj=>?_,fun l j hl' hj=>?_,fun l hl'=>?_,h.rn,h.cm,fun i hi=>h.sB _ (hlt hi),fun i j hi=>h.gB _ _ (hlt hi),fun N f σ h1 h2 h3=>?_⟩
 ·rw [he];exact h.low _ _ (Zm8 hrk hi) (hlt hn) hj
 ·rw [he,Zjo hrk hl'];exact h.bef l j hl' hj
 ·rw [he,Zjo hrk hl'];exact h.piv l hl'
 ·have:=h.det N f (fun a=>swI k r (σ a)) (fun a ha=>hlt (h1 a ha)) (fun a ha=>by rw [h2 a ha,Zjo hrk ha]) (fun a ha=>Zm8 hrk (h3 a ha))
  rw [<- this]
  exact Za4 fun a b _ _=>by rw [he]
theorem Zfg (hrow:∀ i,i < R.length->(R[i]?.getD []).length=m) (hlow:∀ j,j < col->Zg R r j=0) (i j:Nat) (hi:i < R.length) (hr:r < R.length) :
    Zg (Za8 R r col) i j=if i <= r then Zg R i j else Zg R i j - Zg R i col / Zg R r col * Zg R r j:=by
 unfold Za8;show ((List.map _ (List.range R.length))[i]?.getD [])[j]?.getD 0=_;rw [List.getElem?_map,List.getElem?_range hi];simp only [Option.map_some,Option.getD_some]
 by_cases h1:i <= r
 ·rw [if_pos h1,if_pos h1];rfl
 ·rw [if_neg h1,if_neg h1]
  unfold Zkz;rw [List.getElem?_map]
  by_cases hj:j < (R[i]?.getD []).length
  ·rw [List.getElem?_range hj]
   simp only [Option.map_some,Option.getD_some]
   by_cases hjc:j < col
   ·rw [if_pos hjc,hlow j hjc]
    show Zg R i j=_
    grind
   ·rw [if_neg hjc];rfl
  ·rw [List.getElem?_eq_none (l:=List.range _) (by simpa using hj)]
   simp only [Option.map_none,Option.getD_none]
   have e1:Zg R i j=0:=by unfold Zg;rw [List.getElem?_eq_none (by omega)];rfl
   have e2:Zg R r j=0:=by unfold Zg;rw [List.getElem?_eq_none (by rw [hrow i hi] at hj;rw [hrow r hr];omega)];rfl
   rw [e1,e2];grind
theorem Zea:(Za8 R r col).length=R.length:=by unfold Za8;simp
theorem Zj7 (i:Nat) (hi:i < R.length):((Za8 R r col)[i]?.getD []).length=(R[i]?.getD []).length:=by
 unfold Za8;rw [List.getElem?_map,List.getElem?_range hi];simp only [Option.map_some,Option.getD_some]
 split
 ·rfl
 ·unfold Zkz;simp
theorem EIR.clear (h:EIR B S n m col r R pc G s) (hc:col < m) (hr:r < n) (hp:Zg R r col ≠ 0):EIR B S n m (col+1) (r+1) (Za8 R r col) (fun l=>if l=r then col else pc l) G s:=by
 have hl:=h.len
 have he:∀ i j,i < n->Zg (Za8 R r col) i j=if i <= r then Zg R i j else Zg R i j - Zg R i col / Zg R r col * Zg R r j:=
  fun i j hi=>Zfg (m:=m) (fun i hi=>h.row i (by omega)) (fun j hj=>h.low r j (Nat.le_refl _) hr hj) i j (by omega) (by omega)
 refine ⟨by rw [Zea];exact hl,fun i hi=>by rw [Zj7 i (by omega)];exact h.row i hi,fun l hl'=>?_,fun l l' h1 h2=>?_,fun i j hi hn hj=>?_,fun l j hl' hj=>?_,fun l hl'=>?_,hr,hc,h.sB,h.gB,fun N f σ h1 h2 h3=>?_⟩
 ·split
  ·omega
  ·have:=h.pcl l (by omega);omega
 ·rw [if_neg (by omega:¬ l=r)]
  split
  ·exact h.pcl l (by omega)
  ·exact h.inc l l' h1 (by omega)
 ·rw [he i j hn,if_neg (by omega)]
  by_cases hjc:j=col
  ·rw [hjc];grind
  ·rw [h.low i j (by omega) hn (by omega),h.low r j (Nat.le_refl _) hr (by omega)];grind
 ·rw [he l j (by omega),if_pos (by omega)]
  by_cases hlr:l=r
  ·rw [hlr];simp only [hlr,if_true] at hj
   exact h.low r j (Nat.le_refl _) hr hj
  ·simp only [if_neg hlr] at hj
   exact h.bef l j (by omega) hj
 ·rw [he l _ (by omega),if_pos (by omega)]
  by_cases hlr:l=r
  ·simp only [hlr,if_true];exact hp
  ·simp only [if_neg hlr];exact h.piv l (by omega)
 ·rw [<- h.det N f σ h1 (fun a ha=>h2 a (by omega)) (fun a ha=>by
    by_cases har:a=r
    ·rw [har,h2 r (by omega)];exact Nat.le_refl _
    ·have:=h3 a (by omega);omega)]
  by_cases hN:N <= r
  ·refine Za4 fun a b ha hb=>?_
   rw [he _ _ (h1 a ha),if_pos];rw [h2 a (by omega)];omega
  ·have hσr:σ r=r:=h2 r (by omega)
   rw [<- Zkj (fun a b=>s (σ a) * Zg R (σ a) (f b)) (l:=r) (n:=N) (by omega) (fun a=>if a <= r then 0 else - (s (σ a) * Zg R (σ a) col / (s r * Zg R r col)))]
   refine Za4 fun a b ha hb=>?_
   rw [he _ _ (h1 a ha)]
   by_cases har:a <= r
   ·rw [h2 a (by omega),if_pos har]
    simp only [if_pos har]
    split
    ·rfl
    ·grind
   ·have:=h3 a (by omega)
    rw [if_neg (by omega),if_neg (by omega),if_neg har,hσr];have hs:=(h.sB r hr).2
    grind
structure EIZ (n m r:Nat) (R:List (List Rat)) (pc:Nat->Nat) (s:Nat->Rat) (Z:List (List Int)) (last:Int):Prop where
 len:Z.length=n
 row:∀ i,i < n->(Z[i]?.getD []).length=m
 last:(last:Rat)=Zd0 R pc s r
 ent:∀ i j,i < n->(Zbc Z i j:Rat)=Zd0 R pc s (min i r) * (s i * Zg R i j)
theorem Zkl {R':List (List Rat)} {pc':Nat->Nat} {s':Nat->Rat} {l:Nat} (h:∀ i,i < l->s i * Zg R i (pc i)=s' i * Zg R' i (pc' i)):Zd0 R pc s l=Zd0 R' pc' s' l:=Zcm h
theorem Zfa {a b:Int} (h:(a:Rat)=(b:Rat)):a=b:=by exact_mod_cast h
theorem EIZ.last_ne {Z:List (List Int)} {last:Int} (h:EIR B S n m col r R pc G s) (k:EIZ n m r R pc s Z last):last ≠ 0:=by
 rintro rfl;exact h.piv_ne (Nat.le_refl r) (k.last.symm.trans rfl)
theorem EIZ.last_bnd {Z:List (List Int)} {last:Int} (h:EIR B S n m col r R pc G s) (k:EIZ n m r R pc s Z last) (hB:1 <= B):last.natAbs <= Za9 B n:=by
 obtain ⟨z,h1,h2⟩:=h.pivL_bnd (Nat.le_refl r);rw [<- k.last] at h1;rw [Zfa h1];exact Nat.le_trans h2 (Zcx hB h.rn)
theorem EIZ.bnd {Z:List (List Int)} {last:Int} (h:EIR B S n m col r R pc G s) (k:EIZ n m r R pc s Z last) (hB:1 <= B) {i:Nat} (hi:i < n) (j:Nat):(Zbc Z i j).natAbs <= Za9 B n:=by
 obtain ⟨z,h1,h2⟩:=h.minor hi j;rw [<- k.ent i j hi] at h1;rw [Zfa h1];exact Nat.le_trans h2 (Zcx hB (by omega))
theorem EIZ.zero {Z:List (List Int)} {last:Int} (h:EIR B S n m col r R pc G s) (k:EIZ n m r R pc s Z last) {i:Nat} (hi:i < n) (j:Nat):(Zbc Z i j == 0)=(Zg R i j == 0):=by
 have h1:=k.ent i j hi;have h2:=h.piv_ne (l:=min i r) (by omega);have h3:=(h.sB i hi).2
 by_cases h0:Zg R i j=0
 ·rw [h0] at h1 ⊢
  have:Zbc Z i j=0:=Zfa (by rw [h1];grind);rw [this];rfl
 ·have:Zbc Z i j ≠ 0:=by
    intro hz;rw [hz] at h1
    rcases Rat.mul_eq_zero.1 h1.symm with h4 | h4
    ·exact h2 h4
    ·rcases Rat.mul_eq_zero.1 h4 with h4 | h4
     ·exact h3 h4
     ·exact h0 h4
  rw [beq_eq_false_iff_ne.2 this,beq_eq_false_iff_ne.2 h0]
theorem Zlh {Z:List (List Int)} {k r:Nat} (hk:k < Z.length) (hr:r < Z.length) (i j:Nat):Zbc (Zas Z k r) i j=Zbc Z (swI k r i) j:=by
 unfold Zbc;rw [Zey hk hr]
theorem EIZ.swap {Z:List (List Int)} {last:Int} (h:EIR B S n m col r R pc G s) (q:EIZ n m r R pc s Z last) {k:Nat} (hk:k < n) (hrk:r <= k):EIZ n m r (Zas R k r) pc (fun i=>s (swI k r i)) (Zas Z k r) last:=by
 have hr:r < n:=by omega
 have hl:=h.len;have hzl:=q.len;have he:∀ i j,Zg (Zas R k r) i j=Zg R (swI k r i) j:=Zgk (by omega) (by omega)
 have hp:∀ l,l <= r->Zd0 (Zas R k r) pc (fun i=>s (swI k r i)) l=Zd0 R pc s l:=fun l hl=>Zkl fun i hi=>by rw [he,Zjo hrk (by omega)]
 refine ⟨by rw [Zig];exact hzl,fun i hi=>by rw [Zey (by omega) (by omega)];exact q.row _ (Zil hk hr hi),?_,fun i j hi=>?_⟩
 ·rw [hp r (Nat.le_refl r)];exact q.last
 ·rw [hp _ (by omega),he,Zlh (by omega) (by omega),q.ent _ j (Zil hk hr hi)]
  have:min (swI k r i) r=min i r:=by
   by_cases hir:i < r
   ·rw [Zjo hrk hir]
   ·have:=Zm8 (i:=i) hrk (by omega);omega
  rw [this]
theorem Zpz {Z:List (List Int)} {last:Int} (hrow:∀ i,i < Z.length->(Z[i]?.getD []).length=m) (i j:Nat) (hi:i < Z.length) :
    Zbc (Zff Z r col last) i j=if i <= r then Zbc Z i j else if j < m then Int.fdiv (Zbc Z i j * Zbc Z r col - Zbc Z i col * Zbc Z r j) last else 0:=by
 unfold Zff;show ((List.map _ (List.range Z.length))[i]?.getD [])[j]?.getD 0=_;rw [List.getElem?_map,List.getElem?_range hi];simp only [Option.map_some,Option.getD_some]
 by_cases h1:i <= r
 ·rw [if_pos h1,if_pos h1];rfl
 ·rw [if_neg h1,if_neg h1]
  unfold rowZ;rw [List.getElem?_map]
  by_cases hj:j < (Z[i]?.getD []).length
  ·rw [List.getElem?_range hj,if_pos (by rw [hrow i hi] at hj;exact hj)];rfl
  ·rw [List.getElem?_eq_none (l:=List.range _) (by simpa using hj),if_neg (by rw [hrow i hi] at hj;exact hj)];rfl
theorem Zpb {Z:List (List Int)} {last:Int}:(Zff Z r col last).length=Z.length:=by unfold Zff;simp
theorem Zqe {Z:List (List Int)} {last:Int} (i:Nat) (hi:i < Z.length):((Zff Z r col last)[i]?.getD []).length=(Z[i]?.getD []).length:=by
 unfold Zff;rw [List.getElem?_map,List.getElem?_range hi];simp only [Option.map_some,Option.getD_some]
 split
 ·rfl
 ·unfold rowZ;simp
theorem Zn0 (hrow:∀ i,i < n->(R[i]?.getD []).length=m) {i j:Nat} (hi:i < n) (hj:m <= j):Zg R i j=0:=by
 unfold Zg;rw [List.getElem?_eq_none (by rw [hrow i hi];exact hj)];rfl
theorem EIZ.clear {Z:List (List Int)} {last:Int} (h:EIR B S n m col r R pc G s) (q:EIZ n m r R pc s Z last) (hc:col < m) (hr:r < n) (hp:Zg R r col ≠ 0) :
    EIZ n m (r+1) (Za8 R r col) (fun l=>if l=r then col else pc l) s (Zff Z r col last) (Zbc Z r col):=by
 have hl:=h.len;have hzl:=q.len;have h':=h.clear hc hr hp
 have he:∀ i j,i < n->Zg (Za8 R r col) i j=if i <= r then Zg R i j else Zg R i j - Zg R i col / Zg R r col * Zg R r j:=
  fun i j hi=>Zfg (m:=m) (fun i hi=>h.row i (by omega)) (fun j hj=>h.low r j (Nat.le_refl _) hr hj) i j (by omega) (by omega)
 have hpl:∀ l,l <= r->Zd0 (Za8 R r col) (fun l=>if l=r then col else pc l) s l=Zd0 R pc s l:=fun l hl=>Zkl fun i hi=>by
  rw [he _ _ (by omega),if_pos (by omega),if_neg (by omega)]
 have hpr:Zd0 (Za8 R r col) (fun l=>if l=r then col else pc l) s (r+1)=Zd0 R pc s r * (s r * Zg R r col):=by
  rw [Zd0,Zat];have:=hpl r (Nat.le_refl r);unfold Zd0 at this;rw [this,he _ _ hr,if_pos (Nat.le_refl r),if_pos rfl];rfl
 refine ⟨by rw [Zpb];exact hzl,fun i hi=>by rw [Zqe i (by omega)];exact q.row i hi,?_,fun i j hi=>?_⟩
 ·rw [hpr,q.ent r col hr,show min r r=r by omega]
 ·rw [Zpz (m:=m) (fun i hi=>q.row i (by omega)) i j (by omega)]
  by_cases hir:i <= r
  ·rw [if_pos hir,hpl _ (by omega),he _ _ hi,if_pos hir,q.ent i j hi,show min i (r+1)=min i r by omega]
  ·rw [if_neg hir]
   by_cases hj:j < m
   ·rw [if_pos hj]
    obtain ⟨z,hz1,-⟩:=h'.minor hi j;rw [show min i (r+1)=r+1 by omega,hpr,he _ _ hi,if_neg hir] at hz1;have hln:=q.last_ne h;have e1:=q.ent i j hi;have e2:=q.ent r col hr;have e3:=q.ent i col hi;have e4:=q.ent r j hr;have e5:=q.last;rw [show min i r=r by omega] at e1 e3;rw [show min r r=r by omega] at e2 e4
    have hkey:Zbc Z i j * Zbc Z r col - Zbc Z i col * Zbc Z r j=last * z:=Zfa (by
     rw [Rat.intCast_sub,Rat.intCast_mul,Rat.intCast_mul,Rat.intCast_mul,e1,e2,e3,e4,e5,<- hz1]
     grind)
    rw [hkey,Int.mul_comm,Int.mul_fdiv_cancel _ hln,<- hz1,show min i (r+1)=r+1 by omega,hpr,he _ _ hi,if_neg hir]
   ·rw [if_neg hj,Zn0 (n:=n) h'.row hi (by omega)]
    have:((0:Int):Rat)=0:=rfl;rw [this];grind
end
def BdZ (C m:Nat) (Z:List (List Int)):Prop:=(∀ i,i < Z.length->(Z[i]?.getD []).length=m)/\∀ i j,(Zbc Z i j).natAbs < C
def BdR (C D m:Nat) (R:List (List Rat)):Prop:=(∀ i,i < R.length->(R[i]?.getD []).length=m)/\∀ i j,(Zg R i j).num.natAbs < C/\(Zg R i j).den < D
def okZ (C m:Nat):Nat->Nat->Nat->List (List Int)->Int->Prop
 | 0,_,_,Z,last=>BdZ C m Z/\last ≠ 0/\last.natAbs < C
 | f+1,col,r,Z,last=>BdZ C m Z/\(last ≠ 0/\last.natAbs < C)/\(r=Z.length \/
     (Zbp (fun i=>Zbc Z i col == 0) Z.length Z.length r=Z.length->okZ C m f (col+1) r Z last) /\
     (Zbp (fun i=>Zbc Z i col == 0) Z.length Z.length r ≠ Z.length->okZ C m f (col+1) (r+1) (Zff (Zas Z (Zbp (fun i=>Zbc Z i col == 0) Z.length Z.length r) r) r col last) (Zbc Z (Zbp (fun i=>Zbc Z i col == 0) Z.length Z.length r) col)))
def okR (C D m:Nat):Nat->Nat->Nat->List (List Rat)->Prop
 | 0,_,_,R=>BdR C D m R
 | f+1,col,r,R=>BdR C D m R/\(r=R.length \/
     (Zbp (fun i=>Zg R i col == 0) R.length R.length r=R.length->okR C D m f (col+1) r R) /\
     (Zbp (fun i=>Zg R i col == 0) R.length R.length r ≠ R.length->okR C D m f (col+1) (r+1) (Za8 (Zas R (Zbp (fun i=>Zg R i col == 0) R.length R.length r) r) r col)))
def sgB (b:Bool):Rat:=if b then -1 else 1
theorem Zr8 {n k r:Nat} (f:Nat->Rat) (hk:k < n) (hr:r < n):Zat n (fun i=>f (swI k r i))=Zat n f:=by
 by_cases hkr:k=r
 ·subst hkr;refine Zcm fun i _=>?_
  unfold swI;split
  ·rename_i h;rw [h]
  ·rfl
 ·have key:∀ n (f:Nat->Rat) k r,k < r->r < n->Zat n (fun i=>f (swI k r i))=Zat n f:=by
    intro n
    induction n with
    | zero=>intro f k r _ h;omega
    | succ n ih =>
     intro f k r hkr hr
     by_cases hrn:r=n
     ·subst hrn
      have hone:∀ (m:Nat) (g h:Nat->Rat),k < m->(∀ i,i < m->i ≠ k->g i=h i)->Zat m g * h k=Zat m h * g k:=by
       intro m
       induction m with
       | zero=>intro g h hk _;omega
       | succ m ihm =>
        intro g h hk he;simp only [Zat]
        by_cases hkm:k=m
        ·subst hkm
         rw [Zcm (f:=g) (g:=h) (fun i hi=>he i (by omega) (by omega))];grind
        ·have:=ihm g h (by omega) (fun i hi=>he i (by omega))
         rw [he m (by omega) (by omega)];grind
      simp only [Zat]
      have e1:swI k r r=k:=by unfold swI;rw [if_neg (by omega),if_pos rfl]
      have e2:swI k r k=r:=by unfold swI;rw [if_pos rfl]
      have:=hone r (fun i=>f (swI k r i)) f hkr (fun i hi hik=>by unfold swI;rw [if_neg hik,if_neg (by omega)]);simp only [e2] at this;rw [e1];exact this
     ·simp only [Zat]
      rw [ih f k r hkr (by omega)]
      have:swI k r n=n:=by unfold swI;rw [if_neg (by omega),if_neg (by omega)]
      rw [this]
  rcases Nat.lt_or_gt_of_ne hkr with h | h
  ·exact key n f k r h hr
  ·have:∀ i,swI k r i=swI r k i:=fun i=>by unfold swI;split <;> split <;> omega
   rw [<- key n f r k h hk]
   exact Zcm fun i _=>by rw [this]
theorem Zul {n k r:Nat} (M:Nat->Nat->Rat) (hk:k < n) (hr:r < n):Zax n (fun a b=>M (swI k r a) b)=if k=r then Zax n M else - Zax n M:=by
 by_cases hkr:k=r
 ·subst hkr
  rw [if_pos rfl]
  refine Za4 fun a b _ _=>?_
  unfold swI;split
  ·rename_i h;rw [h]
  ·rfl
 ·rw [if_neg hkr,<- Zsm M hk hr hkr]
  congr 1
  funext a b
  unfold swI Zad
  by_cases h1:a=k
  ·subst h1;rw [if_pos rfl,if_neg hkr,if_pos rfl]
  ·rw [if_neg h1]
   by_cases h2:a=r
   ·rw [if_pos h2,if_pos h2]
   ·rw [if_neg h2,if_neg h2,if_neg h1]
theorem EIR.bdR {B S n m col r:Nat} {R:List (List Rat)} {pc:Nat->Nat} {G:Nat->Nat->Rat} {s:Nat->Rat} (h:EIR B S n m col r R pc G s) (hB:1 <= B) (hS:1 <= S):BdR (Za9 B n+1) (Za9 B n * S+1) m R:=by
 have hl:=h.len;refine ⟨fun i hi=>h.row i (by omega),fun i j=>?_⟩
 by_cases hi:i < n
 ·have:=h.bound hB hi j;omega
 ·have:Zg R i j=0:=by unfold Zg;rw [List.getElem?_eq_none (l:=R) (by omega)];rfl
  have h1:1 <= Za9 B n:=Zcx (m:=0) hB (by omega);have h2:1 * 1 <= Za9 B n * S:=Nat.mul_le_mul h1 hS;rw [this];refine ⟨by simp,?_⟩;rw [show (0:Rat).den=1 from rfl];omega
theorem EIZ.bdZ {B S n m col r:Nat} {R:List (List Rat)} {pc:Nat->Nat} {G:Nat->Nat->Rat} {s:Nat->Rat} {Z:List (List Int)} {last:Int} (h:EIR B S n m col r R pc G s) (k:EIZ n m r R pc s Z last) (hB:1 <= B):BdZ (Za9 B n+1) m Z:=by
 have hl:=k.len;refine ⟨fun i hi=>k.row i (by omega),fun i j=>?_⟩
 by_cases hi:i < n
 ·have:=k.bnd h hB hi j;omega
 ·have:Zbc Z i j=0:=by unfold Zbc;rw [List.getElem?_eq_none (l:=Z) (by omega)];rfl
  rw [this];simp
theorem Zii {B S n m:Nat} (hB:1 <= B) (hS:1 <= S):∀ (f col r:Nat) (R:List (List Rat)) (pc:Nat->Nat) (G:Nat->Nat->Rat) (s:Nat->Rat) (Z:List (List Int)) (neg:Bool) (last:Int),
    EIR B S n m col r R pc G s->EIZ n m r R pc s Z last->col+f <= m ->
    okZ (Za9 B n+1) m f col r Z last/\okR (Za9 B n+1) (Za9 B n * S+1) m f col r R /\
    (Zcz f col r Z neg last).2.1=(Zbe f col r R neg).2.1/\(Zcz f col r Z neg last).2.2.1=(Zbe f col r R neg).2.2 /\
    ∃ col' pc' G' s',EIR B S n m col' (Zbe f col r R neg).2.1 (Zbe f col r R neg).1 pc' G' s'/\EIZ n m (Zbe f col r R neg).2.1 (Zbe f col r R neg).1 pc' s' (Zcz f col r Z neg last).1 (Zcz f col r Z neg last).2.2.2 /\
     (col'=col+f \/ (Zbe f col r R neg).2.1=n/\col' <= col+f)/\Zat n s'=Zat n s/\(∀ φ:Nat->Nat,sgB (Zbe f col r R neg).2.2 * Zax n (fun a b=>G' a (φ b))=sgB neg * Zax n (fun a b=>G a (φ b)))
 | 0,col,r,R,pc,G,s,Z,neg,last,h,k,hm=>by
  have h1:=k.last_bnd h hB;exact ⟨⟨k.bdZ h hB,k.last_ne h,by omega⟩,h.bdR hB hS,rfl,rfl,col,pc,G,s,h,k,.inl rfl,rfl,fun φ=>rfl⟩
 | f+1,col,r,R,pc,G,s,Z,neg,last,h,k,hm=>by
  have hRl:=h.len;have hZl:=k.len;have h1:=k.last_bnd h hB;have hrn:=h.rn
  have hpe:Zbp (fun i=>Zbc Z i col == 0) Z.length Z.length r=Zbp (fun i=>Zg R i col == 0) R.length R.length r:=by
   rw [hRl,hZl];exact Znx (by omega) hrn (fun i h1 h2=>k.zero h h2 col)
  unfold Zcz Zbe okZ okR;simp only [hpe];rw [hRl] at hpe ⊢;simp only [hZl]
  by_cases hr:r=n
  ·simp only [if_pos hr]
   exact ⟨⟨k.bdZ h hB,⟨k.last_ne h,by omega⟩,.inl hr⟩,⟨h.bdR hB hS,.inl hr⟩,(by trivial),(by trivial),col,pc,G,s,h,k,.inr ⟨hr,by omega⟩,rfl,fun φ=>rfl⟩
  ·simp only [if_neg hr]
   obtain ⟨q,hq⟩:∃ q,Zbp (fun i=>Zg R i col == 0) n n r=q:=⟨_,rfl⟩;obtain ⟨p1,p2,p3,p4⟩:=Zed (z:=fun i=>Zg R i col == 0) (n:=n) (f:=n) (k:=r) (by omega) (by omega);rw [hq] at p1 p2 p3 p4;simp only [hq]
   by_cases hqn:q=n
   ·simp only [if_pos hqn]
    have hz:∀ i,r <= i->i < n->Zg R i col=0:=fun i h1 h2=>by simpa using p3 i h1 (by omega)
    obtain ⟨o1,o2,o3,o4,col',pc',G',s',o5,o6,o7,o8,o9⟩:=Zii hB hS f (col+1) r R pc G s Z neg last (h.skip (by omega) hz) k (by omega);exact ⟨⟨k.bdZ h hB,⟨k.last_ne h,by omega⟩,.inr ⟨fun _=>o1,fun hn=>absurd hqn hn⟩⟩,⟨h.bdR hB hS,.inr ⟨fun _=>o2,fun hn=>absurd hqn hn⟩⟩,o3,o4,col',pc',G',s',o5,o6,by omega,o8,o9⟩
   ·simp only [if_neg hqn]
    have hqn':q < n:=by omega
    have hpv:Zg R q col ≠ 0:=by simpa using p4 hqn'
    have hsw:=h.swap hqn' p1;have ksw:=k.swap h hqn' p1
    have hen:Zg (Zas R q r) r col=Zg R q col:=by
     rw [Zgk (by omega) (by omega)];congr 1;unfold swI;split
     ·rename_i h;exact h
     ·rw [if_pos rfl]
    have hez:Zbc (Zas Z q r) r col=Zbc Z q col:=by
     rw [Zlh (by omega) (by omega)];congr 1;unfold swI;split
     ·rename_i h;exact h
     ·rw [if_pos rfl]
    have hcl:=hsw.clear (by omega) (by omega) (by rw [hen];exact hpv);have kcl:=ksw.clear hsw (by omega) (by omega) (by rw [hen];exact hpv);rw [hez] at kcl;obtain ⟨o1,o2,o3,o4,col',pc',G',s',o5,o6,o7,o8,o9⟩:=Zii hB hS f (col+1) (r+1) _ _ _ _ _ (neg != decide (q ≠ r)) _ hcl kcl (by omega);refine ⟨⟨k.bdZ h hB,⟨k.last_ne h,by omega⟩,.inr ⟨fun hn=>absurd hn hqn,fun _=>o1⟩⟩,⟨h.bdR hB hS,.inr ⟨fun hn=>absurd hn hqn,fun _=>o2⟩⟩,o3,o4,col',pc',G',s',o5,o6,by omega,?_,fun φ=>?_⟩
    ·rw [o8,Zr8 s hqn' (by omega)]
    ·rw [o9,Zul (fun a b=>G a (φ b)) hqn' (by omega)]
     by_cases hqr:q=r
     ·rw [if_pos hqr]
      have:decide (q ≠ r)=false:=by simp [hqr]
      rw [this];cases neg <;> rfl
     ·rw [if_neg hqr]
      have:decide (q ≠ r)=true:=by simp [hqr]
      rw [this];cases neg <;> simp [sgB] <;> grind
def denTo (row:List Rat):Nat->Nat
 | 0=>1
 | k+1=>denTo row k * ((row[k]?.getD 0).den / Nat.gcd (denTo row k) (row[k]?.getD 0).den)
def Zf2 (row:List Rat):List Int:=row.map fun f=>f.num * ((denTo row row.length / f.den:Nat):Int)
def Zbd (R:List (List Rat)):List (List Int):=R.map Zf2
def denAt (R:List (List Rat)) (i:Nat):Nat:=denTo (R[i]?.getD []) (R[i]?.getD []).length
theorem Zih (row:List Rat) (k:Nat):0 < denTo row k:=by
 induction k with
 | zero=>exact Nat.one_pos
 | succ k ih =>
  refine Nat.mul_pos ih (Nat.div_pos (Nat.le_of_dvd (Rat.den_pos _) (Nat.gcd_dvd_right _ _)) (Nat.gcd_pos_of_pos_left _ ih))
theorem Zj8 (row:List Rat) (k:Nat):denTo row k ∣ denTo row (k+1)/\(row[k]?.getD 0).den ∣ denTo row (k+1):=by
 refine ⟨⟨_,rfl⟩,?_⟩;obtain ⟨c,hc⟩:=Nat.gcd_dvd_left (denTo row k) (row[k]?.getD 0).den;refine ⟨c,?_⟩;simp only [denTo];obtain ⟨d,hd⟩:=Nat.gcd_dvd_right (denTo row k) (row[k]?.getD 0).den;have hg:0 < Nat.gcd (denTo row k) (row[k]?.getD 0).den:=Nat.gcd_pos_of_pos_left _ (Zih row k)
 have e:(row[k]?.getD 0).den / Nat.gcd (denTo row k) (row[k]?.getD 0).den=d:=by
  rw [Nat.div_eq_iff_eq_mul_left hg (Nat.gcd_dvd_right _ _),Nat.mul_comm];exact hd
 rw [e]
 calc denTo row k * d=(Nat.gcd (denTo row k) (row[k]?.getD 0).den * c) * d:=by rw [<- hc]
  _=(Nat.gcd (denTo row k) (row[k]?.getD 0).den * d) * c:=by rw [Nat.mul_assoc,Nat.mul_assoc,Nat.mul_comm c d]
  _=(row[k]?.getD 0).den * c:=by rw [<- hd]
theorem Zl5 (row:List Rat) {j:Nat}:∀ {k:Nat},j < k->(row[j]?.getD 0).den ∣ denTo row k
 | 0,h=>by omega
 | k+1,h=>by
  by_cases hj:j=k
  ·rw [hj];exact (Zj8 row k).2
  ·exact Nat.dvd_trans (Zl5 row (j:=j) (k:=k) (by omega)) (Zj8 row k).1
theorem Zta (row:List Rat) {D:Nat} (h:∀ j:Nat,(row[j]?.getD 0).den <= D) (k:Nat):denTo row k <= D ^ k:=by
 induction k with
 | zero=>exact Nat.le_refl _
 | succ k ih =>
  rw [Nat.pow_succ];exact Nat.mul_le_mul ih (Nat.le_trans (Nat.div_le_self _ _) (h k))
theorem Zna (row:List Rat):(Zf2 row).length=row.length:=by unfold Zf2;simp
theorem Zm2 (row:List Rat) (j:Nat):(((Zf2 row)[j]?.getD 0:Int):Rat)=(denTo row row.length:Nat) * row[j]?.getD 0:=by
 unfold Zf2;rw [List.getElem?_map]
 by_cases hj:j < row.length
 ·rw [List.getElem?_eq_getElem hj]
  simp only [Option.map_some,Option.getD_some];have hd:=Zl5 row hj;rw [List.getElem?_eq_getElem hj] at hd;simp only [Option.getD_some] at hd;obtain ⟨c,hc⟩:=hd;rw [hc,Nat.mul_div_cancel_left _ (Rat.den_pos _),Rat.intCast_mul,Rat.intCast_natCast,Rat.natCast_mul]
  have e0:((row[j].num:Int):Rat) / ((row[j].den:Nat):Rat)=row[j]:=by have:=Rat.num_divInt_den row[j];rw [Rat.divInt_eq_div,Rat.intCast_natCast] at this;exact this
  have e1:((row[j].den:Nat):Rat) ≠ 0:=by
   intro h;have:row[j].den=0:=by exact_mod_cast h
   have:=row[j].den_pos;omega
  have e2:((row[j].num:Int):Rat)=row[j] * ((row[j].den:Nat):Rat):=by rw [<- e0];grind
  rw [e2];grind
 ·rw [List.getElem?_eq_none (by omega)]
  simp only [Option.map_none,Option.getD_none];have:((0:Int):Rat)=0:=rfl;rw [this];grind
theorem Zg9 (R:List (List Rat)) (i j:Nat):((Zbc (Zbd R) i j:Int):Rat)=(denAt R i:Nat) * Zg R i j:=by
 unfold Zbc Zbd Zg denAt;rw [List.getElem?_map]
 cases h:R[i]? with
 | none=>simp only [Option.map_none,Option.getD_none,List.getElem?_nil];have:((0:Int):Rat)=0:=rfl
         rw [this];grind
 | some row=>simp only [Option.map_some,Option.getD_some];exact Zm2 row j
theorem Zkh {B S n m:Nat} (R:List (List Rat)) (hl:R.length=n) (hrow:∀ i,i < n->(R[i]?.getD []).length=m) (hS:∀ i,i < n->denAt R i <= S) (hBd:∀ i j,i < n->(Zbc (Zbd R) i j).natAbs <= B) :
    EIR B S n m 0 0 R (fun _=>0) (fun i j=>(denAt R i:Nat) * Zg R i j) (fun i=>(denAt R i:Nat))/\EIZ n m 0 R (fun _=>0) (fun i=>(denAt R i:Nat)) (Zbd R) 1:=by
 refine ⟨⟨hl,hrow,fun l h=>by omega,fun l l' _ h=>by omega,fun i j _ _ h=>by omega,fun l j h=>by omega,fun l h=>by omega,Nat.zero_le _,Nat.zero_le _,fun i hi=>⟨⟨(denAt R i:Nat),by rw [Rat.intCast_natCast],by rw [Int.natAbs_natCast];exact hS i hi⟩,fun h0=>?_⟩,fun i j hi=>⟨_,(Zg9 R i j).symm,hBd i j hi⟩,fun N f σ _ _ _=>rfl⟩,⟨by unfold Zbd;simp [hl],fun i hi=>?_,rfl,fun i j hi=>?_⟩⟩
 ·have:denAt R i=0:=by exact_mod_cast h0
  have:=Zih (R[i]?.getD []) (R[i]?.getD []).length;unfold denAt at *;omega
 ·unfold Zbd
  rw [List.getElem?_map,List.getElem?_eq_getElem (by omega)];simp only [Option.map_some,Option.getD_some];rw [Zna];have:=hrow i hi;rw [List.getElem?_eq_getElem (by omega)] at this;exact this
 ·rw [Zg9]
  have:Zd0 R (fun _=>0) (fun i=>((denAt R i:Nat):Rat)) (min i 0)=1:=by rw [show min i 0=0 by omega];rfl
  rw [this];grind
end Go.Proofs.YtaioanjcjijckaaGreat
