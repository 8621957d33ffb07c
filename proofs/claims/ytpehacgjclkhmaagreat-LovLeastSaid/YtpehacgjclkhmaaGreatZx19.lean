/- Polynomials: lists of whole numbers, the coefficient of -/
import Derived.Test.YtpehacgjclkhmaaGreatZx18
set_option maxRecDepth 100000
set_option maxHeartbeats 2000000
set_option linter.unusedSimpArgs false
set_option linter.unusedVariables false
namespace Go.Proofs.YtpehacgjclkhmaaGreat
open Go.RowKit
section
variable {t : TypeId} {w w' : World} {g : Nat} {xs : List Int}
end
structure Kept (G : Nat -> Prop) (w w' : World) : Prop where
 os : w'.os = w.os
 tape : w'.tape = w.tape
 output : w'.output = w.output
 size : w.heap.size <= w'.heap.size
 block : ∀ k,k < w.heap.size -> ¬ G k -> w'.heap[k]? = w.heap[k]?
section
variable {G : Nat -> Prop} {w w' w'' : World}
theorem Kept.refl (G : Nat -> Prop) (w : World) : Kept G w w:=⟨rfl,rfl,rfl,Nat.le_refl _,fun _ _ _=>rfl⟩
theorem Kept.trans (h : Kept G w w') (k : Kept G w' w'') : Kept G w w'':=
 ⟨k.os.trans h.os,k.tape.trans h.tape,k.output.trans h.output,Nat.le_trans h.size k.size,fun i hi hg=>(k.block i (Nat.lt_of_lt_of_le hi h.size) hg).trans (h.block i hi hg)⟩
theorem Kept.of_below (h : Below w.heap.size w w') : Kept G w w':=⟨h.os,h.tape,h.output,h.size,fun k hk _=>h.block k hk⟩
theorem Kept.below (h : Kept G w w') (k : Below w'.heap.size w' w'') : Kept G w w'':=h.trans (Kept.of_below k)
theorem Kept.set_ (h : Kept G w w') {p : Addr} (hp : G p.block \/ w.heap.size <= p.block) (u : Value) : Kept G w (w'.setCell p u):=
 ⟨h.os,h.tape,h.output,by simp [World.setCell];exact h.size,fun k hk hg=>(Below.heap_setCell w' p u k (by rcases hp with hp | hp;exact fun e=>hg (e ▸ hp);omega)).trans (h.block k hk hg)⟩
theorem Kept.blk (h : Kept G w w') {g : Nat} {t : TypeId} {cs : Array Value} (hb : Blk w g t cs) (hg : ¬ G g) : Blk w' g t cs:=(h.block g hb.lt hg).trans hb
theorem Kept.to_below {B : Nat} (h : Kept G w w') (hG : ∀ k,G k -> B <= k) (hB : B <= w.heap.size) : Below B w w':=
 ⟨h.os,h.tape,h.output,h.size,fun k hk=>h.block k (Nat.lt_of_lt_of_le hk hB) (fun hg=>by have:=hG k hg;omega)⟩
theorem Kept.lim (h : Kept G w w') {A : Option Addr} {n c : Nat} {l : List Nat} (hl : Lim w A n c l) (hG : ∀ k,G k -> ∃ t cs,Blk w k t cs /\ NoLimb cs) : Lim w' A n c l:=
 ⟨hl.1,hl.2.1,hl.2.2.1,hl.2.2.2.1,fun hn=>by
  obtain ⟨b,o,e,hc⟩:=hl.2.2.2.2 hn;refine ⟨b,o,e,fun k hk=>?_⟩;have h0:=hc k hk;refine (World.cell?_of_block (w:=w) (h.block b (Zt h0) (fun hg=>?_))).trans h0;obtain ⟨t,cs,h1,h2⟩:=hG b hg;have h3:=h0;rw [h1.cell] at h3
  exact h2 _ _ h3⟩
theorem Kept.wd (h : Kept G w w') {neg : Bool} {A : Option Addr} {n c : Nat} {z : Int} (hl : Wd w neg A n c z) (hG : ∀ k,G k -> ∃ t cs,Blk w k t cs /\ NoLimb cs) : Wd w' neg A n c z:=⟨hl.1,hl.2.1,h.lim hl.2.2 hG⟩
end
section
variable {t : TypeId} {w : World} {g : Nat} {xs zs : List Int}
end
attribute [local go_sem] Zg
theorem Zaf {t : TypeId} {w : World} {g : Nat} {a0 : Bool} {A0 : Option Addr} {n0 c0 : Nat} {b0 : Bool} {B0 : Option Addr} {m0 d0 : Nat} (na : Bool) (A : Option Addr) (n c : Nat) (nb : Bool) (B : Option Addr) (m d : Nat) (hb : Blk w g t #[.bool a0,.slice A0 n0 c0,.bool b0,.slice B0 m0 d0]) :
    ∃ W,(((w.setCell ⟨g,0,none⟩ (.bool na)).setCell ⟨g,1,none⟩ (.slice A n c)).setCell ⟨g,2,none⟩ (.bool nb)).setCell ⟨g,3,none⟩ (.slice B m d) = W /\ Blk W g t #[.bool na,.slice A n c,.bool nb,.slice B m d] /\ Kept (fun k=>k = g) w W /\ W.heap.size = w.heap.size:=by
 have hb1 : Blk (w.setCell ⟨g,0,none⟩ (.bool na)) g t #[.bool na,.slice A0 n0 c0,.bool b0,.slice B0 m0 d0]:=hb.set_ 0 (.bool na);have hb2 : Blk ((w.setCell ⟨g,0,none⟩ (.bool na)).setCell ⟨g,1,none⟩ (.slice A n c)) g t #[.bool na,.slice A n c,.bool b0,.slice B0 m0 d0]:=hb1.set_ 1 (.slice A n c);have hb3 : Blk (((w.setCell ⟨g,0,none⟩ (.bool na)).setCell ⟨g,1,none⟩ (.slice A n c)).setCell ⟨g,2,none⟩ (.bool nb)) g t #[.bool na,.slice A n c,.bool nb,.slice B0 m0 d0]:=hb2.set_ 2 (.bool nb);have hb4 : Blk ((((w.setCell ⟨g,0,none⟩ (.bool na)).setCell ⟨g,1,none⟩ (.slice A n c)).setCell ⟨g,2,none⟩ (.bool nb)).setCell ⟨g,3,none⟩ (.slice B m d)) g t #[.bool na,.slice A n c,.bool nb,.slice B m d]:=hb3.set_ 3 (.slice B m d);have k0 : Kept (fun k=>k = g) w w:=Kept.refl _ _;exact ⟨_,rfl,hb4,(((k0.set_ (p:=⟨g,0,none⟩) (.inl rfl) _).set_ (p:=⟨g,1,none⟩) (.inl rfl) _).set_ (p:=⟨g,2,none⟩) (.inl rfl) _).set_ (p:=⟨g,3,none⟩) (.inl rfl) _,by simp⟩
theorem Fr.keptN {w w' : World} {na : Bool} {A : Option Addr} {n c : Nat} {nb : Bool} {B : Option Addr} {m d : Nat} {r : Rat} {g : Nat} {t : TypeId} {cs : Array Value} (h : Fr w na A n c nb B m d r) (hk : Kept (fun k=>k = g) w w') (hb : Blk w g t cs) (hn : NoLimb cs) : Fr w' na A n c nb B m d r:=
 ⟨hk.wd h.1 (fun k e=>by cases e;exact ⟨_,_,hb,hn⟩),hk.wd h.2 (fun k e=>by cases e;exact ⟨_,_,hb,hn⟩)⟩
theorem Zao (a : Bool) (A : Option Addr) (n c : Nat) (b : Bool) (B : Option Addr) (m d : Nat) : NoLimb #[.bool a,.slice A n c,.bool b,.slice B m d]:=fun i x=>by
 match i with
 | 0=>simp
 | 1=>simp
 | 2=>simp
 | 3=>simp
 | i + 4=>simp
theorem Zcs (x : Int) (w : World) :
    Calls Tryz.prog 43 #[.bool true,.int .i64 x] w fun e w'=>e = .returned (.tuple #[]) /\ w' = w:=by
 go_enter Tryz.func43,Tryz.ntmps43;go_wp2_with fail
 go_end0
 exact ⟨rfl,rfl⟩
theorem Zbp (x : Int) (w : World) :
    Calls Tryz.prog 43 #[.bool false,.int .i64 x] w fun e w'=>e = .panicked [{ v:=.iface 133 (.agg #[.int .i64 x]),recovered:=false }] /\ w' = w:=by
 go_enter Tryz.func43,Tryz.ntmps43;go_wp2_with fail;exact ⟨rfl,rfl,rfl⟩
theorem Zhu (p : Addr) (w : World) :
    CallsD Tryz.prog 41 #[.pointer (some p)] .returning w fun e u' w'=>e = .returned (.tuple #[]) /\ u' = .returning /\ w' = w:=by
 refine callsD_of_wpS Tryz.func41 rfl fun c₀ cs hu=>?_
 apply wpS_seq
 apply wpS_region
 simp [wpOpsS,go_sem,recoverD,hu,Tryz.ntmps41,Exit.thenS]
 rw [show (#[Value.pointer (some p)] ++ (Array.replicate 14 undef).setIfInBounds 4 Value.nilIface) = #[Value.pointer (some p),undef,undef,undef,undef,Value.nilIface,undef,undef,undef,undef,undef,undef,undef,undef,undef] from rfl];refine wpS_of_wp ?_;go_wp2_with fail
 cases c₀
 simp_all [bodyPostS,results,Tryz.results41]
theorem Zuo (x : Int) (w : World) : (Instr.typeAssert (.iface 133 (.agg #[.int .i64 x])) 20 133 true).run Tryz.prog w = .ok (.tuple #[.agg #[.int .i64 x],.bool true]) w:=by kernel_rfl
theorem Zdy (p : Addr) (x y : Int) (w : World) (hc : w.cell? p = some (.int .i64 y)) (hz : w.frozen? p = false) :
    CallsD Tryz.prog 41 #[.pointer (some p)] (.panicking [{ v:=.iface 133 (.agg #[.int .i64 x]),recovered:=false }]) w fun e u' w' =>
     e = .returned (.tuple #[]) /\ u' = .panicking [{ v:=.iface 133 (.agg #[.int .i64 x]),recovered:=true }] /\ w' = (w.alloc (.cells #[.int .i64 x] 133)).setCell p (.int .i64 x):=by
 have hlt:=Zt hc
 have hc1 : (w.alloc (.cells #[.int .i64 x] 133)).cell? p = some (.int .i64 y):=by rw [World.cell?_alloc_lt _ _ _ hlt];exact hc
 have hz1 : (w.alloc (.cells #[.int .i64 x] 133)).frozen? p = false:=by exact ((Below.refl w.heap.size w).alloc (Nat.le_refl _) _ |>.frozen hlt).trans hz
 have hta:=Zuo x
 refine callsD_of_wpS Tryz.func41 rfl fun c₀ cs hu=>?_
 apply wpS_seq
 apply wpS_region
 simp [wpOpsS,go_sem,recoverD,hu,Tryz.ntmps41,Exit.thenS]
 rw [show (#[Value.pointer (some p)] ++ (Array.replicate 14 undef).setIfInBounds 4 (Value.iface 133 (.agg #[.int .i64 x]))) = #[Value.pointer (some p),undef,undef,undef,undef,Value.iface 133 (.agg #[.int .i64 x]),undef,undef,undef,undef,undef,undef,undef,undef,undef] from rfl];refine wpS_of_wp ?_;go_wp2_with fail
 simp [bodyPostS,results,Tryz.results41]
theorem Zfl (na nb : Bool) (A B : Option Addr) (n c m d : Nat) (q : Rat) (w : World) (h : Fr w na A n c nb B m d q) :
    Calls Tryz.prog 94 #[.agg #[.bool na,.slice A n c,.bool nb,.slice B m d],.int .i64 0] w (Zcu w q):=by
 obtain ⟨W0,hW0,hB0,⟨q0,q1⟩,s0⟩:=Zd4 w 29 #[.bool na,.slice A n c,.bool nb,.slice B m d] 91 #[.bool false,.slice none 0 0,.bool false,.slice none 0 0];obtain ⟨a0,a1,a2,a3,-⟩:=q0.four;obtain ⟨gR,hgR⟩ : ∃ g,w.heap.size + 1 = g:=⟨_,rfl⟩;rw [hgR] at q1;have h0:=h.below hB0;go_enter Tryz.func94,Tryz.ntmps94;go_wp2_with fail;(try rw [hW0]);refine (Zcs 0 W0).mono ?_;rintro e w1 ⟨rfl,rfl⟩;(try rw [hgR]);obtain ⟨c0,c1,c2,c3,z0,z1,z2,z3⟩:=q1.four;obtain ⟨W5,hW5,q5,hK5,s5⟩:=Zaf na A n c nb B m d q1;go_wp2_with fail;(try rw [hW5]);obtain ⟨r0,r1,r2,r3,-⟩:=q5.four;refine bodyPost_ret (v:=.agg #[.bool na,.slice A n c,.bool nb,.slice B m d]) (by simp [results,Tryz.results94,go_sem,r0,r1,r2,r3]) rfl ?_;refine ⟨?_,_,_,_,_,_,_,_,_,rfl,h0.keptN hK5 q1 (Zao _ _ _ _ _ _ _ _)⟩;exact hB0.trans (hK5.to_below (fun k e=>by omega) (by omega))
theorem Zhh (na nb na' nb' : Bool) (A B A' B' : Option Addr) (n c m d n' c' m' d' : Nat) (a b : Rat) (w : World) (ha : Fr w na A n c nb B m d a) (hb : Fr w na' A' n' c' nb' B' m' d' b) (sa : Sm a) (sb : Sm b) :
    Calls Tryz.prog 56 #[.agg #[.bool na,.slice A n c,.bool nb,.slice B m d],.agg #[.bool na',.slice A' n' c',.bool nb',.slice B' m' d']] w (Zcu w (a - b)):=by
 obtain ⟨W0,hW0,hB0,⟨q0,q1,q2⟩,s0⟩:=Zbh w 91 #[.bool na,.slice A n c,.bool nb,.slice B m d] 91 #[.bool na',.slice A' n' c',.bool nb',.slice B' m' d'] 91 #[.bool false,.slice none 0 0,.bool false,.slice none 0 0];obtain ⟨a0,a1,a2,a3,-⟩:=q0.four;obtain ⟨b0,b1,b2,b3,-⟩:=q1.four;obtain ⟨gR,hgR⟩ : ∃ g,w.heap.size + 1 + 1 = g:=⟨_,rfl⟩;rw [hgR] at q2;have hA:=ha.below hB0;have hD:=hb.below hB0;go_enter Tryz.func56,Tryz.ntmps56;go_wp2_with fail;(try rw [hW0]);refine (fSub_ok na nb na' nb' A B A' B' n c m d n' c' m' d' a b W0 hA hD sa sb).mono ?_;rintro e w1 ⟨hb1,pn,pA,pk,pc,pm,pB,pj,pd,rfl,hf⟩;replace q2:=Zc hb1 q2;clear a0 a1 a2 a3 b0 b1 b2 b3 q0 q1 hA hD;go_wp2_with fail;refine (Zfl pn pm pA pB pk pc pj pd _ w1 hf).mono ?_;rintro e w2 ⟨hb2,rn,rA,rk,rc,rm,rB,rj,rd,rfl,hr⟩;replace q2:=Zc hb2 q2;(try rw [hgR]);obtain ⟨c0,c1,c2,c3,z0,z1,z2,z3⟩:=q2.four;obtain ⟨W5,hW5,q5,hK5,s5⟩:=Zaf rn rA rk rc rm rB rj rd q2;clear hf;go_wp2_with fail;(try rw [hW5]);obtain ⟨r0,r1,r2,r3,-⟩:=q5.four;refine bodyPost_ret (v:=.agg #[.bool rn,.slice rA rk rc,.bool rm,.slice rB rj rd]) (by simp [results,Tryz.results56,go_sem,r0,r1,r2,r3]) rfl ?_;refine ⟨?_,_,_,_,_,_,_,_,_,rfl,hr.keptN hK5 q2 (Zao _ _ _ _ _ _ _ _)⟩;have hB2:=hB0.trans ((hb1.trans (hb2.mono hb1.size)).mono hB0.size);exact hB2.trans (hK5.to_below (fun k e=>by omega) hB2.size)
theorem Zk3 (A : Option Addr) (n c s : Nat) (l : List Nat) (w : World) (h : Lim w A n c l) (hs : s < 32) (hn9 : n <= 1000000) :
    Calls Tryz.prog 156 #[.slice A n c,.int .u64 s] w (fun e w'=>∃ v o,e = .returned v /\ OwnL 154 w' w.heap.size v o /\ o.length = n + 1 /\ val o = 2 ^ s * val l /\ Below w.heap.size w w'):=by
 obtain ⟨i0,hi,hz0,hz1,hz2⟩:=info_parts Zcd;have hnc:=h.2.1;have hcm:=h.2.2.1;unfold maxLen at hcm;go_enter Tryz.func156,Tryz.ntmps156;go_wp2_with fail
 go_loopw [7,6,5] (fun iv cv ov wr=>∃ i cy : Nat,i <= n /\ iv = .int .i64 i /\ cv = .int .u64 cy /\ LeftP w s l i cy ov wr) (fun iv _ _ _=>n - (intOf iv).toNat)
 case atStart=>exact ⟨0,0,Nat.zero_le _,rfl,rfl,[],OwnL.nil _ _ _,rfl,Nat.pow_pos (by omega),by simp [val],Below.refl _ _⟩
 case round =>
  obtain ⟨i,cy,hin,rfl,rfl,o,hown,hol,hcy,hI,hB⟩:=hrel;replace hol:=Zb hol;replace hI:=Zb hI
  by_cases hi' : i < n
  ·obtain ⟨b,of,rfl,hcell⟩:=(h.below hB).at_ hi'
   have hx:=h.lt.get i;obtain ⟨p,hp⟩ : ∃ p,2 ^ s = p:=⟨_,rfl⟩
   have hpb : p <= 2147483648:=by rw [<- hp];exact Nat.pow_le_pow_right (by omega) (show s <= 31 by omega)
   have hxb : p * l[i]?.getD 0 <= 2147483648 * 4294967295:=Nat.mul_le_mul hpb (by omega)
   have hor : IntKind.u64.wrap ((cy : Int) + IntKind.u64.wrap (((l[i]?.getD 0 : Nat) : Int) * 2 ^ s)) = ((cy + p * l[i]?.getD 0 : Nat) : Int):=by
    have e1 : (((l[i]?.getD 0 : Nat) : Int) * 2 ^ s) = ((p * l[i]?.getD 0 : Nat) : Int):=by rw [<- hp];push_cast;rw [Int.mul_comm]
    rw [hp] at hcy;rw [e1,IntKind.wrap_u64,IntKind.wrap_u64];omega
   rw [hp] at hcy;replace hp:=Zb hp;have hs0 : Hid (val (l.take (i + 1)) = val (l.take i) + pw i * l[i]?.getD 0):=Zy l i;obtain ⟨x,hxe⟩ : ∃ x,l[i]?.getD 0 = x:=⟨_,rfl⟩;rw [hxe] at hcell hx hxb hor hs0;replace hxe:=Zb hxe;obtain ⟨t,ht⟩ : ∃ t,cy + p * x = t:=⟨_,rfl⟩
   have htb : t / 4294967296 < p:=by
    rw [Nat.div_lt_iff_lt_mul (by omega),<- ht]
    have : p * x + p <= p * 4294967296:=by rw [<- Nat.mul_succ];exact Nat.mul_le_mul_left _ (by omega)
    omega
   have htb2 : t < 18446744073709551616:=by omega
   rw [ht] at hor;replace ht:=Zb ht;go_wp2_with (go_loud (at_builtin;refine Zr _ rfl (.tmp 23) (.tmp 26) 25 rfl w.heap.size 154 i0 _ 1 4 Tryz.underlying25 hi hz0 hz1 hz2 rfl (by omega) _ i (o.map limb) rfl (by have:=hol.out;subst this;exact hown.1.alloc _) _ _ 1 1 _ rfl (Zav _ _ _) (by simp [Value.oneCell']) (by simp only [maxLen];omega) (by omega) (by have:=hB.size;simp;omega) ?_;intro v1 w1 hown1 hg1 hat1));have hown2 : OwnL 154 w1 w.heap.size v1 (o ++ [t % 4294967296]):=OwnL.snoc (s:=t % 4294967296) hol.out.symm hown1 hown.2 (by omega) (Nat.mod_lt _ (by decide));have hB1:=(hB.alloc hB.size _).grown hg1 (by have:=hB.size;simp;omega) hown.row_ge
   go_roundw
   case rel =>
    refine ⟨i + 1,t / 4294967296,by omega,by go_num,by go_num,_,hown2,by rw [List.length_append,hol.out];rfl,by rw [hp.out];exact htb,?_,hB1⟩;rw [Zc8,hol.out,hs0.out,hp.out,Nat.mul_add,Zak];have h1:=hI.out;rw [hp.out] at h1
    have h2 : pw i * (t % 4294967296) + 4294967296 * pw i * (t / 4294967296) = pw i * t:=by
     rw [Nat.mul_comm 4294967296 (pw i),Nat.mul_assoc,<- Nat.mul_add,Nat.mod_add_div]
    have h3 : p * (pw i * x) = pw i * (p * x):=by rw [Nat.mul_left_comm]
    rw [h3,<- h1,Nat.add_assoc,h2,<- ht.out,Nat.mul_add];omega
   case measure=>simp [intOf];omega
  ·obtain rfl : i = n:=by omega
   have hlen:=Zb h.len;have hcy2 : cy < 4294967296:=Nat.lt_of_lt_of_le hcy (show 2 ^ s <= 4294967296 from Nat.le_trans (Nat.pow_le_pow_right (by decide) (show s <= 32 by omega)) (by decide))
   have hcm : ((cy : Int)) % 4294967296 = (cy : Int):=by omega
   clear h;go_wp2_with (go_loud (at_builtin;refine Zr _ rfl (.tmp 30) (.tmp 33) 25 rfl w.heap.size 154 i0 _ 1 4 Tryz.underlying25 hi hz0 hz1 hz2 rfl (by omega) _ i (o.map limb) rfl (by have:=hol.out;subst this;exact hown.1.alloc _) _ _ 1 1 _ rfl (Zav _ _ _) (by simp [Value.oneCell']) (by simp only [maxLen];omega) (by omega) (by have:=hB.size;simp;omega) ?_;intro v1 w1 hown1 hg1 hat1));have hown2 : OwnL 154 w1 w.heap.size v1 (o ++ [cy]):=OwnL.snoc (s:=cy) hol.out.symm hown1 hown.2 (by omega) hcy2;have hB1:=(hB.alloc hB.size _).grown hg1 (by have:=hB.size;simp;omega) hown.row_ge;go_ret;refine ⟨v1,_,rfl,hown2,by rw [List.length_append,hol.out];rfl,?_,hB1⟩;rw [Zc8,hol.out,hI.out,Z0 (by rw [hlen.out];exact Nat.le_refl _)]
def RShortR (w : World) (g n D : Nat) (l : List Nat) (k r : Nat) (wr : World) : Prop:=
 ∃ o : List Nat,Blk wr g 154 (Zs o) /\ o.length = n /\ Lt32 o /\ r < D /\ val (o.drop k) * D + r = val (l.drop k) /\ Below w.heap.size w wr
theorem Zpc (A : Option Addr) (n c d : Nat) (l : List Nat) (w : World) (hl : Lim w A n c l) (hd0 : 0 < d) (hd : d < 4294967296) (hn9 : n <= 1000000) :
    Calls Tryz.prog 157 #[.slice A n c,limb d] w (Zl0 w (val l) d):=by
 obtain ⟨i0,hi,hz0,hz1,hz2⟩:=info_parts Zcd;have hmk:=Zev (P:=Tryz.prog) 25 154 Tryz.underlying25 hi hz0 hz1 hz2 (n : Int) n rfl (by omega);have hnc:=hl.2.1;have hcm:=hl.2.2.1;unfold maxLen at hcm;have hlen:=Zb hl.len
 have hdz : ((d : Int) == 0) = false:=by simp;omega
 have hdz' : (d : Int) ≠ 0:=by omega
 go_enter Tryz.func157,Tryz.ntmps157;go_wp2_with fail
 go_loopw [8,7] (fun iv rv wr=>∃ k r : Nat,k <= n /\ iv = .int .i64 ((k : Int) - 1) /\ rv = .int .u64 r /\ RShortR w w.heap.size n d l k r wr) (fun iv _ _=>(intOf iv + 1).toNat)
 case atStart=>exact ⟨n,0,Nat.le_refl _,rfl,rfl,List.replicate n 0,Blk.new _ _ _,by simp,Lt32.replicate _,hd0,by rw [List.drop_of_length_le (by simp),List.drop_of_length_le (by rw [hlen.out];exact Nat.le_refl _)];simp [val],(Below.refl _ _).alloc (Nat.le_refl _) _⟩
 case round =>
  obtain ⟨k,r,hk,rfl,rfl,o,hblk,hol,hot,hr,hI,hB⟩:=hrel;replace hol:=Zb hol;replace hI:=Zb hI
  rcases k with _ | k
  ·have hI2:=hI.out
   rw [List.drop_zero,List.drop_zero] at hI2;obtain ⟨e1,e2⟩:=Zlx (U:=val l) (V:=d) (q:=val o) (R:=r) (by omega) hr;have hLo:=Lim.of_blk hblk hot (by rw [hol.out];unfold maxLen;omega);rw [hol.out] at hLo
   have hr32 : r < 4294967296:=by omega
   have hrm : ((r : Int)) % 4294967296 = (r : Int):=by omega
   replace e1:=Zb e1;replace e2:=Zb e2;clear hI2;go_wp2_with fail;refine (Zcx _ _ _ _ _ hLo (by omega)).mono ?_;rintro e w2 ⟨A2,n2,c2,l2,rfl,hL2,rfl,hb2⟩
   have hLr : ∀ t,Lim (w2.alloc (.cells #[limb r] t)) (some ⟨w2.heap.size,0,none⟩) 1 1 [r]:=fun t=>by
    have:=Lim.of_blk (l:=[r]) (Blk.new w2 t (Zs [r])) (Lt32.cons hr32 Lt32.nil) (by simp [maxLen]);exact this
   replace hLr:=Zb hLr;go_wp2_with fail;refine (Zcx _ _ _ _ _ (hLr.out _) (by omega)).mono ?_;rintro e w3 ⟨A3,n3,c3,l3,rfl,hL3,hl3,hb3⟩;have hb3' : Below w2.heap.size w2 w3:=((Below.refl w2.heap.size w2).alloc (Nat.le_refl _) _).trans (hb3.mono (by simp));replace hl3:=Zb hl3;go_wp2_with fail
   go_ret2
   refine ⟨_,_,_,_,_,_,rfl,by rw [<- e1.out];exact hL2.below hb3',?_,(hB.trans (hb2.mono hB.size)).trans (hb3'.mono (Nat.le_trans hB.size hb2.size))⟩;have:=hl3.out;rw [show val [r] = r by simp [val]] at this;rw [<- e2.out,<- this];exact hL3
  ·obtain ⟨b,of,rfl,hcell⟩:=(hl.below hB).at_ (k:=k) (by omega)
   have hx:=hl.lt.get k;have hcg:=hblk.cell k;rw [Z7 o k (by rw [hol.out];omega)] at hcg;have hfg:=hblk.frozen k
   have hrb : r * 4294967296 + l[k]?.getD 0 < 18446744073709551616:=by omega
   go_wp2_with fail;obtain ⟨x,hxe⟩ : ∃ x,l[k]?.getD 0 = x:=⟨_,rfl⟩;rw [hxe] at hx hrb ⊢
   have e1 : ((r : Int) * 4294967296 + (x : Int)) / (d : Int) % 4294967296 = (((r * 4294967296 + x) / d : Nat) : Int):=by
    have : (r * 4294967296 + x) / d < 4294967296:=by
     rw [Nat.div_lt_iff_lt_mul hd0];have:=Nat.mul_le_mul_left 4294967296 (show r + 1 <= d by omega);omega
    rw [show ((r : Int) * 4294967296 + (x : Int)) / (d : Int) = (((r * 4294967296 + x) / d : Nat) : Int) by simp]
    generalize (r * 4294967296 + x) / d = z at *
    omega
   have e2 : ((r : Int) * 4294967296 + (x : Int)) % (d : Int) = (((r * 4294967296 + x) % d : Nat) : Int):=by simp
   have hq : (r * 4294967296 + x) / d < 4294967296:=by
    rw [Nat.div_lt_iff_lt_mul hd0];have:=Nat.mul_le_mul_left 4294967296 (show r + 1 <= d by omega);omega
   have hr' : (r * 4294967296 + x) % d < d:=Nat.mod_lt _ hd0
   have he : (r * 4294967296 + x) / d * d + (r * 4294967296 + x) % d = r * 4294967296 + x:=by rw [Nat.mul_comm];exact Nat.div_add_mod _ _
   rw [e1,e2]
   generalize (r * 4294967296 + x) / d = q at *
   generalize (r * 4294967296 + x) % d = r' at *
   refine ⟨⟨k,r',by omega,rfl,rfl,o.set k q,by rw [<- Za1];exact hblk.set_ _ _,by rw [List.length_set];exact hol.out,hot.set _ hq,hr',?_,hB.setCell (p:=⟨w.heap.size,k,none⟩) (Nat.le_refl _) _⟩,by simp [intOf] <;> omega⟩;exact Zki (by rw [hol.out];omega) (by rw [hlen.out];omega) hI.out (by rw [hxe];exact he)
end Go.Proofs.YtpehacgjclkhmaaGreat
