/- Polynomials: lists of whole numbers, the coefficient of -/
import Derived.Test.YtpehacgjclkhmaaGreatZy29
set_option maxRecDepth 100000
set_option maxHeartbeats 2000000
set_option linter.unusedSimpArgs false
set_option linter.unusedVariables false
namespace Go.Proofs.YtpehacgjclkhmaaGreat
open Go.RowKit
section
variable {t : TypeId} {w w' : World} {g : Nat} {xs : List Int}
end
structure Kept (G : Nat -> Prop) (w w' : World) : Prop where
 os : w'.os = w.os
 tape : w'.tape = w.tape
 output : w'.output = w.output
 size : w.heap.size <= w'.heap.size
 block : ∀ k,k < w.heap.size -> ¬ G k -> w'.heap[k]? = w.heap[k]?
section
variable {G : Nat -> Prop} {w w' w'' : World}
theorem Kept.refl (G : Nat -> Prop) (w : World) : Kept G w w:=⟨rfl,rfl,rfl,Nat.le_refl _,fun _ _ _=>rfl⟩
theorem Kept.trans (h : Kept G w w') (k : Kept G w' w'') : Kept G w w'':=
 ⟨k.os.trans h.os,k.tape.trans h.tape,k.output.trans h.output,Nat.le_trans h.size k.size,fun i hi hg=>(k.block i (Nat.lt_of_lt_of_le hi h.size) hg).trans (h.block i hi hg)⟩
theorem Kept.of_below (h : Below w.heap.size w w') : Kept G w w':=⟨h.os,h.tape,h.output,h.size,fun k hk _=>h.block k hk⟩
theorem Kept.below (h : Kept G w w') (k : Below w'.heap.size w' w'') : Kept G w w'':=h.trans (Kept.of_below k)
theorem Kept.set_ (h : Kept G w w') {p : Addr} (hp : G p.block \/ w.heap.size <= p.block) (u : Value) : Kept G w (w'.setCell p u):=
 ⟨h.os,h.tape,h.output,by simp [World.setCell];exact h.size,fun k hk hg=>(Below.heap_setCell w' p u k (by rcases hp with hp | hp;exact fun e=>hg (e ▸ hp);omega)).trans (h.block k hk hg)⟩
theorem Kept.blk (h : Kept G w w') {g : Nat} {t : TypeId} {cs : Array Value} (hb : Blk w g t cs) (hg : ¬ G g) : Blk w' g t cs:=(h.block g hb.lt hg).trans hb
theorem Kept.to_below {B : Nat} (h : Kept G w w') (hG : ∀ k,G k -> B <= k) (hB : B <= w.heap.size) : Below B w w':=
 ⟨h.os,h.tape,h.output,h.size,fun k hk=>h.block k (Nat.lt_of_lt_of_le hk hB) (fun hg=>by have:=hG k hg;omega)⟩
theorem Kept.lim (h : Kept G w w') {A : Option Addr} {n c : Nat} {l : List Nat} (hl : Lim w A n c l) (hG : ∀ k,G k -> ∃ t cs,Blk w k t cs /\ NoLimb cs) : Lim w' A n c l:=
 ⟨hl.1,hl.2.1,hl.2.2.1,hl.2.2.2.1,fun hn=>by
  obtain ⟨b,o,e,hc⟩:=hl.2.2.2.2 hn;refine ⟨b,o,e,fun k hk=>?_⟩;have h0:=hc k hk;refine (World.cell?_of_block (w:=w) (h.block b (Zr h0) (fun hg=>?_))).trans h0;obtain ⟨t,cs,h1,h2⟩:=hG b hg;have h3:=h0;rw [h1.cell] at h3
  exact h2 _ _ h3⟩
theorem Kept.wd (h : Kept G w w') {neg : Bool} {A : Option Addr} {n c : Nat} {z : Int} (hl : Wd w neg A n c z) (hG : ∀ k,G k -> ∃ t cs,Blk w k t cs /\ NoLimb cs) : Wd w' neg A n c z:=⟨hl.1,hl.2.1,h.lim hl.2.2 hG⟩
end
section
variable {t : TypeId} {w : World} {g : Nat} {xs zs : List Int}
end
attribute [local go_sem] Zg
theorem Zcg {t : TypeId} {w : World} {g : Nat} {a0 : Bool} {A0 : Option Addr} {n0 c0 : Nat} {b0 : Bool} {B0 : Option Addr} {m0 d0 : Nat} (na : Bool) (A : Option Addr) (n c : Nat) (nb : Bool) (B : Option Addr) (m d : Nat) (hb : Blk w g t #[.bool a0,.slice A0 n0 c0,.bool b0,.slice B0 m0 d0]) :
    ∃ W,(((w.setCell ⟨g,0,none⟩ (.bool na)).setCell ⟨g,1,none⟩ (.slice A n c)).setCell ⟨g,2,none⟩ (.bool nb)).setCell ⟨g,3,none⟩ (.slice B m d) = W /\ Blk W g t #[.bool na,.slice A n c,.bool nb,.slice B m d] /\ Kept (fun k=>k = g) w W /\ W.heap.size = w.heap.size:=by
 have hb1 : Blk (w.setCell ⟨g,0,none⟩ (.bool na)) g t #[.bool na,.slice A0 n0 c0,.bool b0,.slice B0 m0 d0]:=hb.set_ 0 (.bool na);have hb2 : Blk ((w.setCell ⟨g,0,none⟩ (.bool na)).setCell ⟨g,1,none⟩ (.slice A n c)) g t #[.bool na,.slice A n c,.bool b0,.slice B0 m0 d0]:=hb1.set_ 1 (.slice A n c);have hb3 : Blk (((w.setCell ⟨g,0,none⟩ (.bool na)).setCell ⟨g,1,none⟩ (.slice A n c)).setCell ⟨g,2,none⟩ (.bool nb)) g t #[.bool na,.slice A n c,.bool nb,.slice B0 m0 d0]:=hb2.set_ 2 (.bool nb);have hb4 : Blk ((((w.setCell ⟨g,0,none⟩ (.bool na)).setCell ⟨g,1,none⟩ (.slice A n c)).setCell ⟨g,2,none⟩ (.bool nb)).setCell ⟨g,3,none⟩ (.slice B m d)) g t #[.bool na,.slice A n c,.bool nb,.slice B m d]:=hb3.set_ 3 (.slice B m d);have k0 : Kept (fun k=>k = g) w w:=Kept.refl _ _;exact ⟨_,rfl,hb4,(((k0.set_ (p:=⟨g,0,none⟩) (.inl rfl) _).set_ (p:=⟨g,1,none⟩) (.inl rfl) _).set_ (p:=⟨g,2,none⟩) (.inl rfl) _).set_ (p:=⟨g,3,none⟩) (.inl rfl) _,by simp⟩
theorem Fr.keptN {w w' : World} {na : Bool} {A : Option Addr} {n c : Nat} {nb : Bool} {B : Option Addr} {m d : Nat} {r : Rat} {g : Nat} {t : TypeId} {cs : Array Value} (h : Fr w na A n c nb B m d r) (hk : Kept (fun k=>k = g) w w') (hb : Blk w g t cs) (hn : NoLimb cs) : Fr w' na A n c nb B m d r:=
 ⟨hk.wd h.1 (fun k e=>by cases e;exact ⟨_,_,hb,hn⟩),hk.wd h.2 (fun k e=>by cases e;exact ⟨_,_,hb,hn⟩)⟩
theorem Zcl (a : Bool) (A : Option Addr) (n c : Nat) (b : Bool) (B : Option Addr) (m d : Nat) : NoLimb #[.bool a,.slice A n c,.bool b,.slice B m d]:=fun i x=>by
 match i with
 | 0=>simp
 | 1=>simp
 | 2=>simp
 | 3=>simp
 | i + 4=>simp
theorem Zcn (x : Int) (w : World) :
    Calls Tryz.prog 43 #[.bool true,.int .i64 x] w fun e w'=>e = .returned (.tuple #[]) /\ w' = w:=by
 go_enter Tryz.func43,Tryz.ntmps43;go_wp2_with fail
 go_end0
 exact ⟨rfl,rfl⟩
theorem Zb2 (x : Int) (w : World) :
    Calls Tryz.prog 43 #[.bool false,.int .i64 x] w fun e w'=>e = .panicked [{ v:=.iface 133 (.agg #[.int .i64 x]),recovered:=false }] /\ w' = w:=by
 go_enter Tryz.func43,Tryz.ntmps43;go_wp2_with fail;exact ⟨rfl,rfl,rfl⟩
theorem Zkn (p : Addr) (w : World) :
    CallsD Tryz.prog 41 #[.pointer (some p)] .returning w fun e u' w'=>e = .returned (.tuple #[]) /\ u' = .returning /\ w' = w:=by
 refine callsD_of_wpS Tryz.func41 rfl fun c₀ cs hu=>?_
 apply wpS_seq
 apply wpS_region
 simp [wpOpsS,go_sem,recoverD,hu,Tryz.ntmps41,Exit.thenS]
 rw [show (#[Value.pointer (some p)] ++ (Array.replicate 14 undef).setIfInBounds 4 Value.nilIface) = #[Value.pointer (some p),undef,undef,undef,undef,Value.nilIface,undef,undef,undef,undef,undef,undef,undef,undef,undef] from rfl];refine wpS_of_wp ?_;go_wp2_with fail
 cases c₀
 simp_all [bodyPostS,results,Tryz.results41]
theorem Zq0 (x : Int) (w : World) : (Instr.typeAssert (.iface 133 (.agg #[.int .i64 x])) 20 133 true).run Tryz.prog w = .ok (.tuple #[.agg #[.int .i64 x],.bool true]) w:=by kernel_rfl
theorem Zlq (p : Addr) (x y : Int) (w : World) (hc : w.cell? p = some (.int .i64 y)) (hz : w.frozen? p = false) :
    CallsD Tryz.prog 41 #[.pointer (some p)] (.panicking [{ v:=.iface 133 (.agg #[.int .i64 x]),recovered:=false }]) w fun e u' w' =>
     e = .returned (.tuple #[]) /\ u' = .panicking [{ v:=.iface 133 (.agg #[.int .i64 x]),recovered:=true }] /\ w' = (w.alloc (.cells #[.int .i64 x] 133)).setCell p (.int .i64 x):=by
 have hlt:=Zr hc
 have hc1 : (w.alloc (.cells #[.int .i64 x] 133)).cell? p = some (.int .i64 y):=by rw [World.cell?_alloc_lt _ _ _ hlt];exact hc
 have hz1 : (w.alloc (.cells #[.int .i64 x] 133)).frozen? p = false:=by exact ((Below.refl w.heap.size w).alloc (Nat.le_refl _) _ |>.frozen hlt).trans hz
 have hta:=Zq0 x
 refine callsD_of_wpS Tryz.func41 rfl fun c₀ cs hu=>?_
 apply wpS_seq
 apply wpS_region
 simp [wpOpsS,go_sem,recoverD,hu,Tryz.ntmps41,Exit.thenS]
 rw [show (#[Value.pointer (some p)] ++ (Array.replicate 14 undef).setIfInBounds 4 (Value.iface 133 (.agg #[.int .i64 x]))) = #[Value.pointer (some p),undef,undef,undef,undef,Value.iface 133 (.agg #[.int .i64 x]),undef,undef,undef,undef,undef,undef,undef,undef,undef] from rfl];refine wpS_of_wp ?_;go_wp2_with fail
 simp [bodyPostS,results,Tryz.results41]
theorem Zic (na nb : Bool) (A B : Option Addr) (n c m d : Nat) (q : Rat) (w : World) (h : Fr w na A n c nb B m d q) :
    Calls Tryz.prog 94 #[.agg #[.bool na,.slice A n c,.bool nb,.slice B m d],.int .i64 0] w (Zfz w q):=by
 obtain ⟨W0,hW0,hB0,⟨q0,q1⟩,s0⟩:=Zfg w 29 #[.bool na,.slice A n c,.bool nb,.slice B m d] 91 #[.bool false,.slice none 0 0,.bool false,.slice none 0 0];obtain ⟨a0,a1,a2,a3,-⟩:=q0.four;obtain ⟨gR,hgR⟩ : ∃ g,w.heap.size + 1 = g:=⟨_,rfl⟩;rw [hgR] at q1;have h0:=h.below hB0;go_enter Tryz.func94,Tryz.ntmps94;go_wp2_with fail;(try rw [hW0]);refine (Zcn 0 W0).mono ?_;rintro e w1 ⟨rfl,rfl⟩;(try rw [hgR]);obtain ⟨c0,c1,c2,c3,z0,z1,z2,z3⟩:=q1.four;obtain ⟨W5,hW5,q5,hK5,s5⟩:=Zcg na A n c nb B m d q1;go_wp2_with fail;(try rw [hW5]);obtain ⟨r0,r1,r2,r3,-⟩:=q5.four;refine bodyPost_ret (v:=.agg #[.bool na,.slice A n c,.bool nb,.slice B m d]) (by simp [results,Tryz.results94,go_sem,r0,r1,r2,r3]) rfl ?_;refine ⟨?_,_,_,_,_,_,_,_,_,rfl,h0.keptN hK5 q1 (Zcl _ _ _ _ _ _ _ _)⟩;exact hB0.trans (hK5.to_below (fun k e=>by omega) (by omega))
theorem Ziz (na nb na' nb' : Bool) (A B A' B' : Option Addr) (n c m d n' c' m' d' : Nat) (a b : Rat) (w : World) (ha : Fr w na A n c nb B m d a) (hb : Fr w na' A' n' c' nb' B' m' d' b) (sa : Sm a) (sb : Sm b) :
    Calls Tryz.prog 56 #[.agg #[.bool na,.slice A n c,.bool nb,.slice B m d],.agg #[.bool na',.slice A' n' c',.bool nb',.slice B' m' d']] w (Zfz w (a - b)):=by
 obtain ⟨W0,hW0,hB0,⟨q0,q1,q2⟩,s0⟩:=Zcp w 91 #[.bool na,.slice A n c,.bool nb,.slice B m d] 91 #[.bool na',.slice A' n' c',.bool nb',.slice B' m' d'] 91 #[.bool false,.slice none 0 0,.bool false,.slice none 0 0];obtain ⟨a0,a1,a2,a3,-⟩:=q0.four;obtain ⟨b0,b1,b2,b3,-⟩:=q1.four;obtain ⟨gR,hgR⟩ : ∃ g,w.heap.size + 1 + 1 = g:=⟨_,rfl⟩;rw [hgR] at q2;have hA:=ha.below hB0;have hD:=hb.below hB0;go_enter Tryz.func56,Tryz.ntmps56;go_wp2_with fail;(try rw [hW0]);refine (fSub_ok na nb na' nb' A B A' B' n c m d n' c' m' d' a b W0 hA hD sa sb).mono ?_;rintro e w1 ⟨hb1,pn,pA,pk,pc,pm,pB,pj,pd,rfl,hf⟩;replace q2:=Zc hb1 q2;clear a0 a1 a2 a3 b0 b1 b2 b3 q0 q1 hA hD;go_wp2_with fail;refine (Zic pn pm pA pB pk pc pj pd _ w1 hf).mono ?_;rintro e w2 ⟨hb2,rn,rA,rk,rc,rm,rB,rj,rd,rfl,hr⟩;replace q2:=Zc hb2 q2;(try rw [hgR]);obtain ⟨c0,c1,c2,c3,z0,z1,z2,z3⟩:=q2.four;obtain ⟨W5,hW5,q5,hK5,s5⟩:=Zcg rn rA rk rc rm rB rj rd q2;clear hf;go_wp2_with fail;(try rw [hW5]);obtain ⟨r0,r1,r2,r3,-⟩:=q5.four;refine bodyPost_ret (v:=.agg #[.bool rn,.slice rA rk rc,.bool rm,.slice rB rj rd]) (by simp [results,Tryz.results56,go_sem,r0,r1,r2,r3]) rfl ?_;refine ⟨?_,_,_,_,_,_,_,_,_,rfl,hr.keptN hK5 q2 (Zcl _ _ _ _ _ _ _ _)⟩;have hB2:=hB0.trans ((hb1.trans (hb2.mono hb1.size)).mono hB0.size);exact hB2.trans (hK5.to_below (fun k e=>by omega) hB2.size)
def Zd7 : Nat -> (Nat -> Rat) -> Rat
 | 0,_=>0
 | n + 1,f=>Zd7 n f + f n
def Zba (i a : Nat) : Nat:=if a < i then a else a + 1
def sgnQ (i : Nat) : Rat:=if i % 2 = 0 then 1 else -1
def Zb4 : Nat -> (Nat -> Nat -> Rat) -> Rat
 | 0,_=>1
 | n + 1,M=>Zd7 (n + 1) fun i=>sgnQ i * M i 0 * Zb4 n (fun a b=>M (Zba i a) (b + 1))
theorem Zhm {n : Nat} {f g : Nat -> Rat} (h : ∀ i,i < n -> f i = g i) : Zd7 n f = Zd7 n g:=by
 induction n with
 | zero=>rfl
 | succ n ih=>simp only [Zd7];rw [ih (fun i hi=>h i (by omega)),h n (by omega)]
theorem Zp3 {n : Nat} (f g : Nat -> Rat) (x y : Rat) : Zd7 n (fun i=>x * f i + y * g i) = x * Zd7 n f + y * Zd7 n g:=by
 induction n with
 | zero=>simp only [Zd7];grind
 | succ n ih=>simp only [Zd7];rw [ih];grind
theorem Zo6 {n : Nat} {f : Nat -> Rat} (h : ∀ i,i < n -> f i = 0) : Zd7 n f = 0:=by
 induction n with
 | zero=>rfl
 | succ n ih=>simp only [Zd7];rw [ih (fun i hi=>h i (by omega)),h n (by omega)];grind
theorem Zld {n : Nat} {f : Nat -> Rat} (k : Nat) (hk : k < n) (h : ∀ i,i < n -> i ≠ k -> f i = 0) : Zd7 n f = f k:=by
 induction n with
 | zero=>omega
 | succ n ih =>
  simp only [Zd7]
  by_cases hn : k = n
  ·subst hn
   rw [Zo6 (fun i hi=>h i (by omega) (by omega))];grind
  ·rw [ih (by omega) (fun i hi=>h i (by omega)),h n (by omega) (by omega)];grind
theorem Zq4 {n : Nat} {f : Nat -> Rat} (k : Nat) (hk : k + 1 < n) (h : ∀ i,i < n -> i ≠ k -> i ≠ k + 1 -> f i = 0) : Zd7 n f = f k + f (k + 1):=by
 induction n with
 | zero=>omega
 | succ n ih =>
  simp only [Zd7]
  by_cases hn : k + 1 = n
  ·subst hn
   rw [Zld k (by omega) (fun i hi h2=>h i (by omega) h2 (by omega))]
  ·rw [ih (by omega) (fun i hi=>h i (by omega)),h n (by omega) (by omega) (by omega)];grind
theorem Zk5 {i a n : Nat} (ha : a < n) : Zba i a < n + 1:=by unfold Zba;split <;> omega
theorem Zp5 (i a : Nat) : Zba i a ≠ i:=by unfold Zba;split <;> omega
theorem Zff {i k : Nat} (h : k ≠ i) : Zba i (if k < i then k else k - 1) = k:=by
 unfold Zba
 by_cases h1 : k < i
 ·rw [if_pos h1,if_pos h1]
 ·rw [if_neg h1,if_neg (by omega)];omega
theorem Zo0 {i a b : Nat} (h : Zba i a = Zba i b) : a = b:=by unfold Zba at h;split at h <;> split at h <;> omega
theorem Zdu {n : Nat} {M N : Nat -> Nat -> Rat} (h : ∀ a b,a < n -> b < n -> M a b = N a b) : Zb4 n M = Zb4 n N:=by
 induction n generalizing M N with
 | zero=>rfl
 | succ n ih =>
  simp only [Zb4]
  refine Zhm fun i hi=>?_
  rw [h i 0 hi (by omega),ih (fun a b ha hb=>h _ _ (Zk5 ha) (by omega))]
def Zbf (M : Nat -> Nat -> Rat) (k : Nat) (r : Nat -> Rat) : Nat -> Nat -> Rat:=fun a b=>if a = k then r b else M a b
theorem Zc8 {M : Nat -> Nat -> Rat} {k i : Nat} {r : Nat -> Rat} (h : k ≠ i) :
    (fun a b=>Zbf M k r (Zba i a) (b + 1)) = Zbf (fun a b=>M (Zba i a) (b + 1)) (if k < i then k else k - 1) (fun b=>r (b + 1)):=by
 funext a b
 unfold Zbf
 by_cases ha : a = (if k < i then k else k - 1)
 ·rw [if_pos ha,ha,Zff h,if_pos rfl]
 ·rw [if_neg ha,if_neg]
  intro e;exact ha (Zo0 (i:=i) (by rw [e,Zff h]))
theorem Zda {M : Nat -> Nat -> Rat} {k : Nat} {r : Nat -> Rat} : (fun a b=>Zbf M k r (Zba k a) (b + 1)) = (fun a b=>M (Zba k a) (b + 1)):=by
 funext a b
 unfold Zbf;rw [if_neg (Zp5 k a)]
theorem Zkf {n : Nat} (M : Nat -> Nat -> Rat) {k : Nat} (hk : k < n) (r s : Nat -> Rat) (x y : Rat) :
    Zb4 n (Zbf M k (fun b=>x * r b + y * s b)) = x * Zb4 n (Zbf M k r) + y * Zb4 n (Zbf M k s):=by
 induction n generalizing M k r s with
 | zero=>omega
 | succ n ih =>
  simp only [Zb4];rw [<- Zp3]
  refine Zhm fun i hi=>?_
  by_cases h : k = i
  ·subst h
   rw [Zda,Zda,Zda];simp only [Zbf,if_true]
   grind
  ·rw [Zc8 h,Zc8 h,Zc8 h]
   rw [ih (fun a b=>M (Zba i a) (b + 1)) (k:=if k < i then k else k - 1) (by split <;> omega) (fun b=>r (b + 1)) (fun b=>s (b + 1))];simp only [Zbf,if_neg (show ¬ i = k from fun e=>h e.symm)]
   grind
theorem Zok (i : Nat) : sgnQ (i + 1) = - sgnQ i:=by
 unfold sgnQ
 rcases Nat.mod_two_eq_zero_or_one i with h | h
 ·rw [if_pos h,if_neg (by omega)]
 ·rw [if_neg (by omega : ¬ i % 2 = 0),if_pos (by omega)];grind
theorem Zlj {n : Nat} {M : Nat -> Nat -> Rat} {k : Nat} (hk : k + 1 < n) (h : ∀ b,M (k + 1) b = M k b) : Zb4 n M = 0:=by
 induction n generalizing M k with
 | zero=>omega
 | succ n ih =>
  simp only [Zb4];rw [Zq4 k hk]
  ·have hm : (fun a b=>M (Zba k a) (b + 1)) = (fun a b=>M (Zba (k + 1) a) (b + 1)):=by
     funext a b
     by_cases ha : a = k
     ·subst ha
      simp only [Zba,if_neg (Nat.lt_irrefl a),if_pos (Nat.lt_succ_self a)];exact h _
     ·have : Zba k a = Zba (k + 1) a:=by unfold Zba;split <;> split <;> omega
      rw [this]
   rw [hm,h 0,Zok];grind
  ·intro i hi h1 h2
   rw [ih (M:=fun a b=>M (Zba i a) (b + 1)) (k:=if k < i then k else k - 1)]
   ·grind
   ·split <;> omega
   ·intro b
    have e1 : Zba i (if k < i then k else k - 1) = k:=Zff (Ne.symm h1)
    have e2 : Zba i ((if k < i then k else k - 1) + 1) = k + 1:=by unfold Zba;split <;> split <;> omega
    rw [e1,e2];exact h _
theorem Zgd (M : Nat -> Nat -> Rat) (k : Nat) : Zbf M k (M k) = M:=by
 funext a b;unfold Zbf;split
 ·rename_i h;rw [h]
 ·rfl
theorem Zcy (M : Nat -> Nat -> Rat) {k l : Nat} (h : k ≠ l) (r s : Nat -> Rat) : Zbf (Zbf M k r) l s = Zbf (Zbf M l s) k r:=by
 funext a b;unfold Zbf
 by_cases h1 : a = k
 ·subst h1;simp [h]
 ·simp [h1]
theorem Zh2 {n : Nat} (M : Nat -> Nat -> Rat) {k : Nat} (hk : k < n) (r s : Nat -> Rat) :
    Zb4 n (Zbf M k (fun b=>r b + s b)) = Zb4 n (Zbf M k r) + Zb4 n (Zbf M k s):=by
 have:=Zkf M hk r s 1 1;rw [show (fun b=>r b + s b) = (fun b=>1 * r b + 1 * s b) by funext b;grind,this];grind
theorem Zj3 {n : Nat} {k l : Nat} (hk : k < n) (hl : l < n) (hne : k ≠ l) (hz : ∀ (M : Nat -> Nat -> Rat),(∀ b,M k b = M l b) -> Zb4 n M = 0) (M : Nat -> Nat -> Rat) (r s : Nat -> Rat) :
    Zb4 n (Zbf (Zbf M k r) l s) = - Zb4 n (Zbf (Zbf M k s) l r):=by
 have h:=hz (Zbf (Zbf M k (fun b=>r b + s b)) l (fun b=>r b + s b)) (fun b=>by simp [Zbf,hne]);have h1:=hz (Zbf (Zbf M k r) l r) (fun b=>by simp [Zbf,hne]);have h2:=hz (Zbf (Zbf M k s) l s) (fun b=>by simp [Zbf,hne]);rw [Zh2 _ hl,Zcy _ hne,Zcy _ hne,Zh2 _ hk,Zh2 _ hk,<- Zcy _ hne,<- Zcy _ hne,<- Zcy _ hne,<- Zcy _ hne,h1,h2] at h
 grind
theorem Zgo {n : Nat} : ∀ (d : Nat) (M : Nat -> Nat -> Rat) (k : Nat),k + d + 1 < n -> (∀ b,M k b = M (k + d + 1) b) -> Zb4 n M = 0:=by
 intro d
 induction d with
 | zero=>intro M k hk h;exact Zlj hk (fun b=>(h b).symm)
 | succ d ih =>
  intro M k hk h;have h1:=Zj3 (n:=n) (k:=k + d + 1) (l:=k + d + 2) (by omega) (by omega) (by omega) (fun M h=>Zlj (k:=k + d + 1) (by omega) (fun b=>(h b).symm)) M (M (k + d + 1)) (M (k + d + 2));rw [Zgd,Zgd] at h1;rw [h1,ih _ k (by omega)]
  ·grind
  ·intro b
   have:=h b;rw [show k + (d + 1) + 1 = k + d + 2 by omega] at this;simp only [Zbf];rw [if_neg (by omega),if_neg (by omega),if_neg (by omega)]
   simpa using this
theorem Zqb {n : Nat} {M : Nat -> Nat -> Rat} {k l : Nat} (hk : k < n) (hl : l < n) (hne : k ≠ l) (h : ∀ b,M k b = M l b) : Zb4 n M = 0:=by
 rcases Nat.lt_or_gt_of_ne hne with h1 | h1
 ·exact Zgo (l - k - 1) M k (by omega) (fun b=>by rw [show k + (l - k - 1) + 1 = l by omega];exact h b)
 ·exact Zgo (k - l - 1) M l (by omega) (fun b=>by rw [show l + (k - l - 1) + 1 = k by omega];exact (h b).symm)
theorem Zko {n : Nat} (M : Nat -> Nat -> Rat) {k l : Nat} (hk : k < n) (hl : l < n) (hne : k ≠ l) (c : Rat) : Zb4 n (Zbf M k (fun b=>M k b + c * M l b)) = Zb4 n M:=by
 have h:=Zkf M hk (M k) (M l) 1 c
 rw [show (fun b=>M k b + c * M l b) = (fun b=>1 * M k b + c * M l b) by funext b;grind,h,Zgd,
  Zqb (M:=Zbf M k (M l)) hk hl hne (fun b=>by simp [Zbf,Ne.symm hne])]
 grind
theorem Zm7 {n : Nat} (M : Nat -> Nat -> Rat) {l : Nat} (hl : l < n) (c : Nat -> Rat) : Zb4 n (fun a b=>if a = l then M a b else M a b + c a * M l b) = Zb4 n M:=by
 have key : ∀ m,m <= n -> Zb4 n (fun a b=>if a = l then M a b else if a < m then M a b + c a * M l b else M a b) = Zb4 n M:=by
  intro m
  induction m with
  | zero=>intro _;congr 1;funext a b;split <;> rfl
  | succ m ih =>
   intro hm;have h0:=ih (by omega)
   by_cases hml : m = l
   ·rw [<- h0];congr 1;funext a b
    by_cases ha : a = l
    ·simp [ha]
    ·rw [if_neg ha,if_neg ha]
     by_cases h1 : a < m
     ·rw [if_pos h1,if_pos (by omega)]
     ·rw [if_neg h1,if_neg (by omega)]
   ·have h1:=Zko (n:=n) (fun a b=>if a = l then M a b else if a < m then M a b + c a * M l b else M a b) (k:=m) (l:=l) (by omega) hl hml (c m)
    rw [h0] at h1;rw [<- h1];congr 1;funext a b;unfold Zbf
    by_cases ha : a = m
    ·subst ha;simp [hml]
    ·rw [if_neg ha]
     by_cases hal : a = l
     ·simp [hal]
     ·rw [if_neg hal]
      by_cases h1 : a < m
      ·rw [if_pos (by omega)];simp [hal,h1]
      ·rw [if_neg (by omega)];simp [hal,h1]
 rw [<- key n (Nat.le_refl _)]
 exact Zdu fun a b ha hb=>by rw [if_pos ha]
def Zcz : Nat -> (Nat -> Rat) -> Rat
 | 0,_=>1
 | n + 1,f=>Zcz n f * f n
theorem Zgm {n : Nat} {f g : Nat -> Rat} (h : ∀ i,i < n -> f i = g i) : Zcz n f = Zcz n g:=by
 induction n with
 | zero=>rfl
 | succ n ih=>simp only [Zcz];rw [ih (fun i hi=>h i (by omega)),h n (by omega)]
theorem Zkq {n : Nat} (f : Nat -> Rat) : Zcz (n + 1) f = f 0 * Zcz n (fun i=>f (i + 1)):=by
 induction n generalizing f with
 | zero=>simp only [Zcz];grind
 | succ n ih=>rw [Zcz,ih,Zcz];grind
theorem Zq7 {n : Nat} {M : Nat -> Nat -> Rat} (h : ∀ a b,a < n -> b < a -> M a b = 0) : Zb4 n M = Zcz n (fun i=>M i i):=by
 induction n generalizing M with
 | zero=>rfl
 | succ n ih =>
  simp only [Zb4];rw [Zld 0 (by omega)]
  ·rw [Zkq,ih]
   ·have : sgnQ 0 = 1:=rfl
    rw [this,Zgm (g:=fun i=>M (i + 1) (i + 1)) (fun i hi=>by simp only [Zba];rw [if_neg (by omega)])];grind
   ·intro a b ha hb
    simp only [Zba];rw [if_neg (by omega)];exact h _ _ (by omega) (by omega)
  ·intro i hi h0
   rw [h i 0 hi (by omega)];grind
end Go.Proofs.YtpehacgjclkhmaaGreat
