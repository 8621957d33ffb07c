/- Polynomials: lists of whole numbers, the coefficient of -/
import Derived.BigQuiet
import Derived.Deep.QuietTactic
import Derived.Test.YtaioanjcjijckaaGreatZl22
import Derived.Test.YtaioanjcjijckaaGreatZl20
set_option maxRecDepth 100000
set_option maxHeartbeats 2000000
set_option linter.unusedSimpArgs false
set_option linter.unusedVariables false
namespace Go.Proofs.YtaioanjcjijckaaGreat
open Go.RowKit
section
variable {t : TypeId} {w w' : World} {g : Nat} {xs : List Int}
end
structure Kept (G : Nat -> Prop) (w w' : World) : Prop where
 os : w'.os = w.os
 tape : w'.tape = w.tape
 output : w'.output = w.output
 size : w.heap.size <= w'.heap.size
 block : ∀ k,k < w.heap.size -> ¬ G k -> w'.heap[k]? = w.heap[k]?
section
variable {G : Nat -> Prop} {w w' w'' : World}
theorem Kept.refl (G : Nat -> Prop) (w : World) : Kept G w w:=⟨rfl,rfl,rfl,Nat.le_refl _,fun _ _ _=>rfl⟩
theorem Kept.trans (h : Kept G w w') (k : Kept G w' w'') : Kept G w w'':=
 ⟨k.os.trans h.os,k.tape.trans h.tape,k.output.trans h.output,Nat.le_trans h.size k.size,fun i hi hg=>(k.block i (Nat.lt_of_lt_of_le hi h.size) hg).trans (h.block i hi hg)⟩
theorem Kept.of_below (h : Below w.heap.size w w') : Kept G w w':=⟨h.os,h.tape,h.output,h.size,fun k hk _=>h.block k hk⟩
theorem Kept.below (h : Kept G w w') (k : Below w'.heap.size w' w'') : Kept G w w'':=h.trans (Kept.of_below k)
theorem Kept.set_ (h : Kept G w w') {p : Addr} (hp : G p.block \/ w.heap.size <= p.block) (u : Value) : Kept G w (w'.setCell p u):=
 ⟨h.os,h.tape,h.output,by simp [World.setCell];exact h.size,fun k hk hg=>(Below.heap_setCell w' p u k (by rcases hp with hp | hp;exact fun e=>hg (e ▸ hp);omega)).trans (h.block k hk hg)⟩
theorem Kept.blk (h : Kept G w w') {g : Nat} {t : TypeId} {cs : Array Value} (hb : Blk w g t cs) (hg : ¬ G g) : Blk w' g t cs:=(h.block g hb.lt hg).trans hb
theorem Kept.to_below {B : Nat} (h : Kept G w w') (hG : ∀ k,G k -> B <= k) (hB : B <= w.heap.size) : Below B w w':=
 ⟨h.os,h.tape,h.output,h.size,fun k hk=>h.block k (Nat.lt_of_lt_of_le hk hB) (fun hg=>by have:=hG k hg;omega)⟩
theorem Kept.lim (h : Kept G w w') {A : Option Addr} {n c : Nat} {l : List Nat} (hl : Lim w A n c l) (hG : ∀ k,G k -> ∃ t cs,Blk w k t cs /\ NoLimb cs) : Lim w' A n c l:=
 ⟨hl.1,hl.2.1,hl.2.2.1,hl.2.2.2.1,fun hn=>by
  obtain ⟨b,o,e,hc⟩:=hl.2.2.2.2 hn;refine ⟨b,o,e,fun k hk=>?_⟩;have h0:=hc k hk;refine (World.cell?_of_block (w:=w) (h.block b (Zs h0) (fun hg=>?_))).trans h0;obtain ⟨t,cs,h1,h2⟩:=hG b hg;have h3:=h0;rw [h1.cell] at h3
  exact h2 _ _ h3⟩
theorem Kept.wd (h : Kept G w w') {neg : Bool} {A : Option Addr} {n c : Nat} {z : Int} (hl : Wd w neg A n c z) (hG : ∀ k,G k -> ∃ t cs,Blk w k t cs /\ NoLimb cs) : Wd w' neg A n c z:=⟨hl.1,hl.2.1,h.lim hl.2.2 hG⟩
end
section
variable {t : TypeId} {w : World} {g : Nat} {xs zs : List Int}
end
attribute [local go_sem] Zg
theorem Za7 {t : TypeId} {w : World} {g : Nat} {a0 : Bool} {A0 : Option Addr} {n0 c0 : Nat} {b0 : Bool} {B0 : Option Addr} {m0 d0 : Nat} (na : Bool) (A : Option Addr) (n c : Nat) (nb : Bool) (B : Option Addr) (m d : Nat) (hb : Blk w g t #[.bool a0,.slice A0 n0 c0,.bool b0,.slice B0 m0 d0]) :
    ∃ W,(((w.setCell ⟨g,0,none⟩ (.bool na)).setCell ⟨g,1,none⟩ (.slice A n c)).setCell ⟨g,2,none⟩ (.bool nb)).setCell ⟨g,3,none⟩ (.slice B m d) = W /\ Blk W g t #[.bool na,.slice A n c,.bool nb,.slice B m d] /\ Kept (fun k=>k = g) w W /\ W.heap.size = w.heap.size:=by
 have hb1 : Blk (w.setCell ⟨g,0,none⟩ (.bool na)) g t #[.bool na,.slice A0 n0 c0,.bool b0,.slice B0 m0 d0]:=hb.set_ 0 (.bool na);have hb2 : Blk ((w.setCell ⟨g,0,none⟩ (.bool na)).setCell ⟨g,1,none⟩ (.slice A n c)) g t #[.bool na,.slice A n c,.bool b0,.slice B0 m0 d0]:=hb1.set_ 1 (.slice A n c);have hb3 : Blk (((w.setCell ⟨g,0,none⟩ (.bool na)).setCell ⟨g,1,none⟩ (.slice A n c)).setCell ⟨g,2,none⟩ (.bool nb)) g t #[.bool na,.slice A n c,.bool nb,.slice B0 m0 d0]:=hb2.set_ 2 (.bool nb);have hb4 : Blk ((((w.setCell ⟨g,0,none⟩ (.bool na)).setCell ⟨g,1,none⟩ (.slice A n c)).setCell ⟨g,2,none⟩ (.bool nb)).setCell ⟨g,3,none⟩ (.slice B m d)) g t #[.bool na,.slice A n c,.bool nb,.slice B m d]:=hb3.set_ 3 (.slice B m d);have k0 : Kept (fun k=>k = g) w w:=Kept.refl _ _;exact ⟨_,rfl,hb4,(((k0.set_ (p:=⟨g,0,none⟩) (.inl rfl) _).set_ (p:=⟨g,1,none⟩) (.inl rfl) _).set_ (p:=⟨g,2,none⟩) (.inl rfl) _).set_ (p:=⟨g,3,none⟩) (.inl rfl) _,by simp⟩
theorem Fr.keptN {w w' : World} {na : Bool} {A : Option Addr} {n c : Nat} {nb : Bool} {B : Option Addr} {m d : Nat} {r : Rat} {g : Nat} {t : TypeId} {cs : Array Value} (h : Fr w na A n c nb B m d r) (hk : Kept (fun k=>k = g) w w') (hb : Blk w g t cs) (hn : NoLimb cs) : Fr w' na A n c nb B m d r:=
 ⟨hk.wd h.1 (fun k e=>by cases e;exact ⟨_,_,hb,hn⟩),hk.wd h.2 (fun k e=>by cases e;exact ⟨_,_,hb,hn⟩)⟩
theorem Zbt (a : Bool) (A : Option Addr) (n c : Nat) (b : Bool) (B : Option Addr) (m d : Nat) : NoLimb #[.bool a,.slice A n c,.bool b,.slice B m d]:=fun i x=>by
 match i with
 | 0=>simp
 | 1=>simp
 | 2=>simp
 | 3=>simp
 | i + 4=>simp
theorem Zc2 (x : Int) (w : World) :
    Calls Tryz.prog 54 #[.bool true,.int .i64 x] w fun e w'=>e = .returned (.tuple #[]) /\ w' = w:=by
 go_enter Tryz.func54,Tryz.ntmps54;go_wp2_with fail
 go_end0
 exact ⟨rfl,rfl⟩
theorem Zcj (x : Int) (w : World) :
    Calls Tryz.prog 54 #[.bool false,.int .i64 x] w fun e w'=>e = .panicked [{ v:=.iface 154 (.agg #[.int .i64 x]),recovered:=false }] /\ w' = w:=by
 go_enter Tryz.func54,Tryz.ntmps54;go_wp2_with fail;exact ⟨rfl,rfl,rfl⟩
theorem Zms (p : Addr) (w : World) :
    CallsD Tryz.prog 52 #[.pointer (some p)] .returning w fun e u' w'=>e = .returned (.tuple #[]) /\ u' = .returning /\ w' = w:=by
 refine callsD_of_wpS Tryz.func52 rfl fun c₀ cs hu=>?_
 apply wpS_seq
 apply wpS_region
 simp [wpOpsS,go_sem,recoverD,hu,Tryz.ntmps52,Exit.thenS]
 rw [show (#[Value.pointer (some p)] ++ (Array.replicate 14 undef).setIfInBounds 4 Value.nilIface) = #[Value.pointer (some p),undef,undef,undef,undef,Value.nilIface,undef,undef,undef,undef,undef,undef,undef,undef,undef] from rfl];refine wpS_of_wp ?_;go_wp2_with fail
 cases c₀
 simp_all [bodyPostS,results,Tryz.results52]
theorem Ztj (x : Int) (w : World) : (Instr.typeAssert (.iface 154 (.agg #[.int .i64 x])) 20 154 true).run Tryz.prog w = .ok (.tuple #[.agg #[.int .i64 x],.bool true]) w:=by kernel_rfl
theorem Zn4 (p : Addr) (x y : Int) (w : World) (hc : w.cell? p = some (.int .i64 y)) (hz : w.frozen? p = false) :
    CallsD Tryz.prog 52 #[.pointer (some p)] (.panicking [{ v:=.iface 154 (.agg #[.int .i64 x]),recovered:=false }]) w fun e u' w' =>
     e = .returned (.tuple #[]) /\ u' = .panicking [{ v:=.iface 154 (.agg #[.int .i64 x]),recovered:=true }] /\ w' = (w.alloc (.cells #[.int .i64 x] 154)).setCell p (.int .i64 x):=by
 have hlt:=Zs hc
 have hc1 : (w.alloc (.cells #[.int .i64 x] 154)).cell? p = some (.int .i64 y):=by rw [World.cell?_alloc_lt _ _ _ hlt];exact hc
 have hz1 : (w.alloc (.cells #[.int .i64 x] 154)).frozen? p = false:=by exact ((Below.refl w.heap.size w).alloc (Nat.le_refl _) _ |>.frozen hlt).trans hz
 have hta:=Ztj x
 refine callsD_of_wpS Tryz.func52 rfl fun c₀ cs hu=>?_
 apply wpS_seq
 apply wpS_region
 simp [wpOpsS,go_sem,recoverD,hu,Tryz.ntmps52,Exit.thenS]
 rw [show (#[Value.pointer (some p)] ++ (Array.replicate 14 undef).setIfInBounds 4 (Value.iface 154 (.agg #[.int .i64 x]))) = #[Value.pointer (some p),undef,undef,undef,undef,Value.iface 154 (.agg #[.int .i64 x]),undef,undef,undef,undef,undef,undef,undef,undef,undef] from rfl];refine wpS_of_wp ?_;go_wp2_with fail
 simp [bodyPostS,results,Tryz.results52]
theorem Zjt (na nb : Bool) (A B : Option Addr) (n c m d : Nat) (q : Rat) (w : World) (h : Fr w na A n c nb B m d q) :
    Calls Tryz.prog 117 #[.agg #[.bool na,.slice A n c,.bool nb,.slice B m d],.int .i64 0] w (Zds w q):=by
 obtain ⟨W0,hW0,hB0,⟨q0,q1⟩,s0⟩:=Zdm w 29 #[.bool na,.slice A n c,.bool nb,.slice B m d] 99 #[.bool false,.slice none 0 0,.bool false,.slice none 0 0];obtain ⟨a0,a1,a2,a3,-⟩:=q0.four;obtain ⟨gR,hgR⟩ : ∃ g,w.heap.size + 1 = g:=⟨_,rfl⟩;rw [hgR] at q1;have h0:=h.below hB0;go_enter Tryz.func117,Tryz.ntmps117;go_wp2_with fail;(try rw [hW0]);refine (Zc2 0 W0).mono ?_;rintro e w1 ⟨rfl,rfl⟩;(try rw [hgR]);obtain ⟨c0,c1,c2,c3,z0,z1,z2,z3⟩:=q1.four;obtain ⟨W5,hW5,q5,hK5,s5⟩:=Za7 na A n c nb B m d q1;go_wp2_with fail;(try rw [hW5]);obtain ⟨r0,r1,r2,r3,-⟩:=q5.four;refine bodyPost_ret (v:=.agg #[.bool na,.slice A n c,.bool nb,.slice B m d]) (by simp [results,Tryz.results117,go_sem,r0,r1,r2,r3]) rfl ?_;refine ⟨?_,_,_,_,_,_,_,_,_,rfl,h0.keptN hK5 q1 (Zbt _ _ _ _ _ _ _ _)⟩;exact hB0.trans (hK5.to_below (fun k e=>by omega) (by omega))
theorem Zkm (na nb na' nb' : Bool) (A B A' B' : Option Addr) (n c m d n' c' m' d' : Nat) (a b : Rat) (w : World) (ha : Fr w na A n c nb B m d a) (hb : Fr w na' A' n' c' nb' B' m' d' b) (sa : Sm a) (sb : Sm b) :
    Calls Tryz.prog 67 #[.agg #[.bool na,.slice A n c,.bool nb,.slice B m d],.agg #[.bool na',.slice A' n' c',.bool nb',.slice B' m' d']] w (Zds w (a - b)):=by
 obtain ⟨W0,hW0,hB0,⟨q0,q1,q2⟩,s0⟩:=Zbm w 99 #[.bool na,.slice A n c,.bool nb,.slice B m d] 99 #[.bool na',.slice A' n' c',.bool nb',.slice B' m' d'] 99 #[.bool false,.slice none 0 0,.bool false,.slice none 0 0];obtain ⟨a0,a1,a2,a3,-⟩:=q0.four;obtain ⟨b0,b1,b2,b3,-⟩:=q1.four;obtain ⟨gR,hgR⟩ : ∃ g,w.heap.size + 1 + 1 = g:=⟨_,rfl⟩;rw [hgR] at q2;have hA:=ha.below hB0;have hD:=hb.below hB0;go_enter Tryz.func67,Tryz.ntmps67;go_wp2_with fail;(try rw [hW0]);refine (fSub_ok na nb na' nb' A B A' B' n c m d n' c' m' d' a b W0 hA hD sa sb).mono ?_;rintro e w1 ⟨hb1,pn,pA,pk,pc,pm,pB,pj,pd,rfl,hf⟩;replace q2:=Zb hb1 q2;clear a0 a1 a2 a3 b0 b1 b2 b3 q0 q1 hA hD;go_wp2_with fail;refine (Zjt pn pm pA pB pk pc pj pd _ w1 hf).mono ?_;rintro e w2 ⟨hb2,rn,rA,rk,rc,rm,rB,rj,rd,rfl,hr⟩;replace q2:=Zb hb2 q2;(try rw [hgR]);obtain ⟨c0,c1,c2,c3,z0,z1,z2,z3⟩:=q2.four;obtain ⟨W5,hW5,q5,hK5,s5⟩:=Za7 rn rA rk rc rm rB rj rd q2;clear hf;go_wp2_with fail;(try rw [hW5]);obtain ⟨r0,r1,r2,r3,-⟩:=q5.four;refine bodyPost_ret (v:=.agg #[.bool rn,.slice rA rk rc,.bool rm,.slice rB rj rd]) (by simp [results,Tryz.results67,go_sem,r0,r1,r2,r3]) rfl ?_;refine ⟨?_,_,_,_,_,_,_,_,_,rfl,hr.keptN hK5 q2 (Zbt _ _ _ _ _ _ _ _)⟩;have hB2:=hB0.trans ((hb1.trans (hb2.mono hb1.size)).mono hB0.size);exact hB2.trans (hK5.to_below (fun k e=>by omega) hB2.size)
theorem rNeg_ok (neg : Bool) (A : Option Addr) (n c : Nat) (z : Int) (w : World) (hz : Wd w neg A n c z) :
    Calls Tryz.prog 107 #[.agg #[.bool neg,.slice A n c]] w (ResW w (-z)):=by
 have hL:=hz.lim;have hn:=hz.2.1
 have hB0 : ∀ X Y : Obj,Below w.heap.size w ((w.alloc X).alloc Y):=fun X Y=>((Below.refl w.heap.size w).alloc (Nat.le_refl _) _).alloc (by simp) _
 have hB0:=Za hB0;have hgood : Hid (okW neg (digits z.natAbs) = true):=hz.ok;have hsg:=Za hz.sgEq;clear hz;go_enter Tryz.func107,Tryz.ntmps107;go_wp2_with fail;refine (Zae ((hL.alloc _).alloc _) hgood.out).mono ?_;rintro e w1 ⟨rfl,hb1⟩;obtain ⟨hc1,hf1⟩:=Zbd hb1
 have hz1 : w.heap.size + 1 < w1.heap.size:=by have:=hb1.size;simp at this;omega
 have hB1 : Below w.heap.size w w1:=(hB0.out _ _).trans (hb1.mono (by simp;omega))
 have g7 : Hid (Blk w1 (w.heap.size + 1) 27 #[.bool false,.slice none 0 0]):=by
  refine Zb hb1 ?_;have:=Blk.new (w.alloc (.cells #[.bool neg,.slice A n c] 27)) 27 #[.bool false,.slice none 0 0];simp only [World.size_alloc] at this;exact this
 have hL1:=hL.below hB1;go_wp2_with fail;refine (Zaq _ _ _ _ _ _ hL1 (by omega)).mono ?_;rintro e w2 ⟨hb2,neg3,A3,n3,c3,code3,rfl,hR3⟩;have hB2 : Below w.heap.size w w2:=hB1.trans (hb2.mono hB1.size);have m8:=Zb hb2 g7.out;have m3:=m8.cell 0;have m4:=m8.cell 1;have m5:=m8.frozen 0;have m6:=m8.frozen 1
 simp at m3 m4
 replace m8:=Za m8;clear hc1 hf1;go_wp2_with fail
 have HZ : sg (!neg) (val (digits z.natAbs)) = -z:=by have h1:=hsg.out;rw [Zpg,h1]
 refine bodyPost_ret (v:=.tuple #[.agg #[.bool neg3,.slice A3 n3 c3],.int .i64 code3]) (by simp [results,Tryz.results107,go_sem,m3,m4]) rfl ?_;exact ResW.box (HZ ▸ hR3) hB2 (by omega) m8.out
theorem Zl1 (na nb : Bool) (A B : Option Addr) (n c m d : Nat) (za zb : Int) (w : World) (ha : Wd w na A n c za) (hb : Wd w nb B m d zb) :
    Calls Tryz.prog 45 #[.agg #[.bool na,.slice A n c],.agg #[.bool nb,.slice B m d]] w fun e w'=>e = .returned (.int .i64 (Zaw za zb)) /\ Below w.heap.size w w':=by
 have hLa:=ha.lim;have hLb:=hb.lim;have hna:=ha.1;have hnb:=hb.1
 have hB0 : ∀ X Y : Obj,Below w.heap.size w ((w.alloc X).alloc Y):=fun X Y=>((Below.refl w.heap.size w).alloc (Nat.le_refl _) _).alloc (by simp) _
 have hB0:=Za hB0;have HC1:=Za (Zbc za.natAbs zb.natAbs);have HC2:=Za (Zbc zb.natAbs za.natAbs)
 have hP : Hid (∀ (e : Ending) (w' : World),(e = .returned (.int .i64 (Za8 (digits za.natAbs) (digits zb.natAbs))) /\ Below w.heap.size w w') -> (na = false /\ nb = false) -> e = .returned (.int .i64 (Zaw za zb)) /\ Below w.heap.size w w'):=fun e w' ⟨h1,h2⟩ ⟨h3,h4⟩=>by
  subst h3 h4
  have h5 : ¬ za < 0:=by intro h;simp [h] at hna
  have h6 : ¬ zb < 0:=by intro h;simp [h] at hnb
  refine ⟨?_,h2⟩;rw [h1,HC1.out,show ((za.natAbs : Nat) : Int) = za by omega,show ((zb.natAbs : Nat) : Int) = zb by omega]
 have hN : Hid (∀ (e : Ending) (w' : World),(e = .returned (.int .i64 (Za8 (digits zb.natAbs) (digits za.natAbs))) /\ Below w.heap.size w w') -> (na = true /\ nb = true) -> e = .returned (.int .i64 (Zaw za zb)) /\ Below w.heap.size w w'):=fun e w' ⟨h1,h2⟩ ⟨h3,h4⟩=>by
  subst h3 h4
  have h5 : za < 0:=by by_cases h : za < 0;exact h;simp [h] at hna
  have h6 : zb < 0:=by by_cases h : zb < 0;exact h;simp [h] at hnb
  refine ⟨?_,h2⟩;rw [h1,HC2.out]
  congr 2
  unfold Zaw
  split <;> split <;> (try split) <;> omega
 have hM : Hid (∀ b,na = b -> nb = !b -> Ending.returned (.int .i64 (if b then -1 else 1)) = .returned (.int .i64 (Zaw za zb))):=fun b h3 h4=>by
  refine Zfu ?_;unfold Zaw
  cases b
  ·have h5 : ¬ za < 0:=by intro h;simp [h,h3] at hna
   have h6 : zb < 0:=by by_cases h : zb < 0;exact h;simp [h,h4] at hnb
   rw [if_neg (show ¬ za < zb by omega),if_pos (show zb < za by omega)];rfl
  ·have h5 : za < 0:=by by_cases h : za < 0;exact h;simp [h,h3] at hna
   have h6 : ¬ zb < 0:=by intro h;simp [h,h4] at hnb
   rw [if_pos (show za < zb by omega)];rfl
 clear ha hb hna hnb
 cases na <;> cases nb
 ·go_enter Tryz.func45,Tryz.ntmps45
  go_wp2_with (go_at_call 75;((with_reducible refine (Zat _ _ _ _ _ _ _ _ _ ((hLa.alloc _).alloc _) ((hLb.alloc _).alloc _)).mono ?_));rintro e w1 ⟨rfl,hb1⟩);go_ret;exact hP.out _ _ ⟨rfl,(hB0.out _ _).trans (hb1.mono (by simp;omega))⟩ (by simp)
 ·go_enter Tryz.func45,Tryz.ntmps45
  go_wp2_with fail;go_ret;exact ⟨hM.out false rfl rfl,hB0.out _ _⟩
 ·go_enter Tryz.func45,Tryz.ntmps45
  go_wp2_with fail;go_ret;exact ⟨hM.out true rfl rfl,hB0.out _ _⟩
 ·go_enter Tryz.func45,Tryz.ntmps45
  go_wp2_with (go_at_call 75;((with_reducible refine (Zat _ _ _ _ _ _ _ _ _ ((hLb.alloc _).alloc _) ((hLa.alloc _).alloc _)).mono ?_));rintro e w1 ⟨rfl,hb1⟩);go_ret;exact hN.out _ _ ⟨rfl,(hB0.out _ _).trans (hb1.mono (by simp;omega))⟩ (by simp)
theorem Zh4 (na nb : Bool) (A B : Option Addr) (n c m d : Nat) (za zb : Int) (w : World) (ha : Wd w na A n c za) (hb : Wd w nb B m d zb) :
    Calls Tryz.prog 101 #[.agg #[.bool na,.slice A n c],.agg #[.bool nb,.slice B m d]] w (ResW w (Nat.gcd za.natAbs zb.natAbs : Nat)):=by
 have hLa:=ha.lim;have hLb:=hb.lim;have hn:=ha.2.1;have hm:=hb.2.1
 have hB0 : ∀ X Y Z : Obj,Below w.heap.size w (((w.alloc X).alloc Y).alloc Z):=fun X Y Z=>(((Below.refl w.heap.size w).alloc (Nat.le_refl _) _).alloc (by simp) _).alloc (by simp;omega) _
 have hB0:=Za hB0
 have hgood : Hid ((okW na (digits za.natAbs) && okW nb (digits zb.natAbs)) = true):=by unfold Hid;rw [ha.ok,hb.ok];rfl
 clear ha hb
 generalize za.natAbs = va at *
 generalize zb.natAbs = vb at *
 obtain ⟨G,hG⟩ : ∃ G,Nat.gcd va vb = G:=⟨_,rfl⟩;rw [hG];replace hG:=Za hG;go_enter Tryz.func101,Tryz.ntmps101;go_wp2_with fail;refine (Zdh (((hLa.alloc _).alloc _).alloc _) (((hLb.alloc _).alloc _).alloc _) hgood.out).mono ?_;rintro e w1 ⟨rfl,hb1⟩;obtain ⟨hc1,hf1⟩:=Zbd hb1
 have hz1 : w.heap.size + 1 + 1 < w1.heap.size:=by have:=hb1.size;simp at this;omega
 have hB1 : Below w.heap.size w w1:=(hB0.out _ _ _).trans (hb1.mono (by simp;omega))
 have g1 : w1.cell? ⟨w.heap.size,1,none⟩ = some (.slice A n c):=by simp [hc1,go_sem]
 have g2 : w1.cell? ⟨w.heap.size + 1,1,none⟩ = some (.slice B m d):=by simp [hc1,go_sem]
 have g7 : Blk w1 (w.heap.size + 1 + 1) 27 #[.bool false,.slice none 0 0]:=by
  refine Zb hb1 ?_;have:=Blk.new ((w.alloc (.cells #[.bool na,.slice A n c] 27)).alloc (.cells #[.bool nb,.slice B m d] 27)) 27 #[.bool false,.slice none 0 0];simp only [World.size_alloc] at this;exact this
 have hLa1:=hLa.below hB1;have hLb1:=hLb.below hB1;replace g7:=Za g7;clear hc1 hf1;go_wp2_with fail
 go_quiet (fail)
 have m7 : Hid (Blk (w1.drewN nq) (w.heap.size + 1 + 1) 27 #[.bool false,.slice none 0 0]):=Blk.drewN g7.out nq;have hB2 : Below w.heap.size w (w1.drewN nq):=Zh hB1 nq;go_wp2_with fail
 go_loopw [6,7] (fun xv yv wr=>GcdR w 27 G xv yv wr) (fun _ yv wr=>val (Zg1 wr yv))
 case atStart=>exact ⟨va,vb,_,_,_,_,_,_,rfl,rfl,hLa1,hLb1,hn,hm,hG.out,m7.out,hB2⟩
 case round =>
  obtain ⟨u,v,A5,n5,c5,B5,m5,d5,rfl,rfl,hLu,hLv,hn5,hm5,hg,hb7,hBr⟩:=hrel;replace hg:=Za hg;replace hb7:=Za hb7
  by_cases hm0 : 0 < m5
  ·have hv0 : 0 < v:=by rw [<- hLv.len] at hm0;exact length_digits_pos.1 hm0
   have hmem:=Za hLv.mem;go_wp2_with fail;refine (Ze6 _ _ _ _ _ _ u v _ hLu hLv (by omega) hv0).mono ?_;rintro e w5 ⟨A6,n6,c6,B6,m6,d6,rfl,hLq,hLr,hb5⟩;go_wp2_with fail
   go_roundw
   case rel=>exact ⟨v,u % v,_,_,_,_,_,_,rfl,rfl,hLv.below hb5,hLr,hm5,by have:=Zr (Nat.le_of_lt (Nat.mod_lt u hv0));rw [hLr.len,hLv.len] at this;omega,by rw [<- hg.out,Nat.gcd_comm u v,Nat.gcd_rec v u,Nat.gcd_comm],Zb hb5 hb7.out,hBr.trans (hb5.mono hBr.size)⟩
   case measure=>simp only [hmem.out,hLr.mem,Zf];exact Nat.mod_lt u hv0
  ·obtain rfl : m5 = 0:=by omega
   have hv0 : v = 0:=by
    rcases Nat.eq_zero_or_pos v with h | h
    ·exact h
    ·have:=length_digits_pos.2 h;rw [hLv.len] at this;omega
   subst hv0
   have hgu : Hid (u = G):=by have:=hg.out;rw [Nat.gcd_zero_right] at this;exact this
   have g8:=hb7.out;have g3:=g8.cell 0;have g4:=g8.cell 1;have g5:=g8.frozen 0;have g6:=g8.frozen 1
   simp at g3 g4
   clear g8;go_wp2_with fail;refine (Zaq _ _ _ _ _ _ hLu (by omega)).mono ?_;rintro e w6 ⟨hb6,neg6,A7,n7,c7,code7,rfl,hR7⟩;have hB6 : Below w.heap.size w w6:=hBr.trans (hb6.mono hBr.size);have m8:=Zb hb6 hb7.out;have m3:=m8.cell 0;have m4:=m8.cell 1;have m5:=m8.frozen 0;have m6:=m8.frozen 1
   simp at m3 m4
   replace m8:=Za m8;go_wp2_with fail
   have HZ : sg false (val (digits u)) = (G : Int):=by rw [Zf,hgu.out];rfl
   refine bodyPost_ret (v:=.tuple #[.agg #[.bool neg6,.slice A7 n7 c7],.int .i64 code7]) (by simp [results,Tryz.results101,go_sem,m3,m4]) rfl ?_;exact ResW.box (HZ ▸ hR7) hB6 (by omega) m8.out
end Go.Proofs.YtaioanjcjijckaaGreat
