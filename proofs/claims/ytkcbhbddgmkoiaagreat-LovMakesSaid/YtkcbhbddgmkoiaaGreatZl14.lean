/- Package frac: Check. Fractions: plain words (a fraction is -/
import Derived.Defers
import Derived.Recover
import Derived.Test.YtkcbhbddgmkoiaaGreatZl13
set_option maxRecDepth 100000
set_option maxHeartbeats 1000000
set_option linter.unusedSimpArgs false
set_option linter.unusedVariables false
namespace Go.Proofs.YtkcbhbddgmkoiaaGreat
open Go.RowKit
attribute [local go_sem] Zg
def Low (num den : Int) : Prop:=0 < den /\ Nat.gcd num.natAbs den.natAbs = 1
theorem Zcb {a b : Nat} {p : Nat} (ha : a < p) (hb : b < p) : Nat.gcd a b < p:=by
 rcases Nat.eq_zero_or_pos a with rfl | h
 ·rw [Nat.gcd_zero_left];exact hb
 ·exact Nat.lt_of_le_of_lt (Nat.le_of_dvd h (Nat.gcd_dvd_left a b)) ha
theorem Zhm (na : Bool) (A B : Option Addr) (n c m d : Nat) (za zb : Int) (w : World) (ha : Wd w na A n c za) (hb : Wd w false B m d zb) (hp : 0 < zb) (b : Bool) (hg : decide ((Nat.gcd za.natAbs zb.natAbs : Int) = 1) = b) :
    Calls Tryz.prog 111 #[.agg #[.bool na,.slice A n c,.bool false,.slice B m d]] w fun e w'=>e = .returned (.int .i64 (if b then 0 else 8)) /\ Below w.heap.size w w':=by
 have hm0 : 0 < m:=by rw [<- hb.lim.len];exact length_digits_pos.2 (by omega)
 have hm0' : ((m : Int) == 0) = false:=by simp;omega
 have hm:=hb.2.1;have hgs:=Zcb ha.small hb.small;obtain ⟨G,hG⟩ : ∃ G,Nat.gcd za.natAbs zb.natAbs = G:=⟨_,rfl⟩;rw [hG] at hg hgs;have HA:=Za ha;have HB:=Za hb
 have HGc : Hid (∀ W : World,Wd W na A n c za -> Wd W false B m d zb -> Calls Tryz.prog 136 #[.agg #[.bool na,.slice A n c],.agg #[.bool false,.slice B m d]] W (ResW W (G : Int))):=fun W h1 h2=>by
  have:=Zh9 na false A B n c m d za zb W h1 h2;rw [hG] at this;exact this
 clear ha hb hG
 have hB0 : ∀ X : Obj,Below w.heap.size w (w.alloc X):=fun X=>(Below.refl w.heap.size w).alloc (Nat.le_refl _) _
 have hB0:=Za hB0;go_enter Tryz.func111,Tryz.ntmps111;go_wp2_with fail;refine (HGc.out _ (HA.out.alloc _) (HB.out.alloc _)).mono ?_;rintro e w1 ⟨hb1,ng,Ag,kg,cg,code,rfl,hR⟩
 rcases hR with ⟨-,rfl,hgw⟩ | ⟨hbig,-⟩
 case inr=>exact absurd hbig (by omega)
 obtain ⟨hc1,hf1⟩:=Zbe hb1
 have hz1 : w.heap.size < w1.heap.size:=by have:=hb1.size;simp at this;omega
 have hB1 : Below w.heap.size w w1:=(hB0.out _).trans (hb1.mono (by simp))
 have g2 : w1.cell? ⟨w.heap.size,2,none⟩ = some (.bool false):=by simp [hc1,go_sem]
 have g3 : w1.cell? ⟨w.heap.size,3,none⟩ = some (.slice B m d):=by simp [hc1,go_sem]
 have hbA : Below w1.heap.size w1 (w1.alloc (.cells #[.bool ng,.slice Ag kg cg] 62)):=(Below.refl _ _).alloc (Nat.le_refl _) _;have bg:=Za (Blk.new w1 62 #[.bool ng,.slice Ag kg cg]);have a2:=Zb hbA g2;have a3:=Zb hbA g3;have hgw2:=Za (hgw.alloc (.cells #[.bool ng,.slice Ag kg cg] 62));have hB2:=Za (hB1.trans (hbA.mono hB1.size));clear hc1 hf1 g2 g3 hgw;go_wp2_with fail
 generalize w1.alloc _ = w2 at *
 have p0:=bg.out.cell 0;have p1:=bg.out.cell 1
 simp at p0 p1
 go_region_held3 (fun w'=>w'.cell? ⟨w.heap.size,2,none⟩ = some (.bool false) /\ w'.cell? ⟨w.heap.size,3,none⟩ = some (.slice B m d) /\ w'.cell? ⟨w1.heap.size,0,none⟩ = some (.bool ng) /\ w'.cell? ⟨w1.heap.size,1,none⟩ = some (.slice Ag kg cg))
  (((try dsimp only);(repeat' apply And.intro);all_goals (first | go_keep | (simp [*,go_sem];done))))
  (first
   | (go_at_call 83;refine (Zdx _ _ _ _ _ (by omega) _ hm0').mono ?_;rintro e w3 ⟨rfl,hb3⟩;have hb3':=Zn hb3;have k2:=Zb hb3' a2;have k3:=Zb hb3' a3;have k0:=Zb hb3' p0;have k1:=Zb hb3' p1)
   | (go_at_call 126;refine (Zm7 _).mono ?_;rintro e w4 ⟨hb4,n4,A4,m4,c4,rfl,hw4⟩;have j2:=Zb hb4 k2;have j3:=Zb hb4 k3;have j0:=Zb hb4 k0;have j1:=Zb hb4 k1)
   | (go_at_call 137;refine (Zqm _ _ _ _ _ _ _ _ _ _ _ ((hgw2.out.below hb3').below hb4) hw4 b hg).mono ?_;rintro e w5 ⟨rfl,hb5⟩;have i2:=Zb hb5 j2;have i3:=Zb hb5 j3;have i0:=Zb hb5 j0;have i1:=Zb hb5 j1))
 have hB5 : Hid (Below w.heap.size w w5):=((hB2.out.trans (hb3'.mono hB2.out.size)).trans (hb4.mono (Nat.le_trans hB2.out.size hb3'.size))).trans (hb5.mono (Nat.le_trans hB2.out.size (Nat.le_trans hb3'.size hb4.size)))
 cases b
 ·go_wp2_with fail
  go_ret;exact ⟨rfl,hB5.out⟩
 ·go_wp2_with fail
  go_ret;exact ⟨rfl,hB5.out⟩
def Zds (a b : Int) : Int:=if b < 0 then -(Nat.gcd a.natAbs b.natAbs : Nat) else (Nat.gcd a.natAbs b.natAbs : Nat)
theorem Zhf {a b : Int} (h : b ≠ 0) : Zds a b ≠ 0:=by
 have : 0 < Nat.gcd a.natAbs b.natAbs:=Nat.gcd_pos_of_pos_right _ (by omega);unfold Zds;split <;> omega
theorem Zf9 (a b : Int) : ((Nat.gcd a.natAbs b.natAbs : Nat) : Int) ∣ a:=by
 rw [<- Int.dvd_natAbs];exact Int.ofNat_dvd.2 (Nat.gcd_dvd_left _ _)
theorem Zis (a b : Int) : ((Nat.gcd a.natAbs b.natAbs : Nat) : Int) ∣ b:=by
 rw [<- Int.dvd_natAbs];exact Int.ofNat_dvd.2 (Nat.gcd_dvd_right _ _)
theorem Zow (a b : Int) : Zds a b ∣ a:=by
 unfold Zds;split
 ·exact Int.neg_dvd.2 (Zf9 a b)
 ·exact Zf9 a b
theorem Zoy (a b : Int) : Zds a b ∣ b:=by
 unfold Zds;split
 ·exact Int.neg_dvd.2 (Zis a b)
 ·exact Zis a b
theorem Zma (a b : Int) : Int.gcd b a = Nat.gcd a.natAbs b.natAbs:=by unfold Int.gcd;exact Nat.gcd_comm _ _
theorem Zf7 {a b : Int} (h : b ≠ 0) : Int.fdiv a (Zds a b) = (Rat.divInt a b).num:=by
 rw [Int.fdiv_eq_ediv_of_dvd (Zow a b),Rat.num_divInt,Zma];unfold Zds;obtain ⟨k,hk⟩:=Zf9 a b
 have hg : ((Nat.gcd a.natAbs b.natAbs : Nat) : Int) ≠ 0:=by
  have : 0 < Nat.gcd a.natAbs b.natAbs:=Nat.gcd_pos_of_pos_right _ (by omega);omega
 split
 ·rename_i hb
  rw [Int.ediv_neg,Int.sign_eq_neg_one_of_neg hb,show (-1 : Int) * a = -a by omega,Int.neg_ediv_of_dvd (Zf9 a b)]
 ·rw [Int.sign_eq_one_of_pos (by omega),Int.one_mul]
theorem Zf2 {a b : Int} (h : b ≠ 0) : Int.fdiv b (Zds a b) = ((Rat.divInt a b).den : Nat):=by
 rw [Int.fdiv_eq_ediv_of_dvd (Zoy a b),Rat.den_divInt,Zma,if_neg h];unfold Zds
 split
 ·rename_i hb
  rw [Int.ediv_neg,<- Int.neg_ediv_of_dvd (Zis a b),show -b = ((b.natAbs : Nat) : Int) by omega,Int.natCast_ediv]
 ·rw [Int.natCast_ediv,show ((b.natAbs : Nat) : Int) = b by omega]
theorem Zn8 (r : Rat) : Low r.num r.den:=⟨by have:=r.den_pos;omega,by simpa using r.reduced⟩
theorem rat_low {a b : Int} (h : Low a b) : (Rat.divInt a b).num = a /\ ((Rat.divInt a b).den : Int) = b:=by
 have h0 : b ≠ 0:=by have:=h.1;omega
 have hG : Zds a b = 1:=by unfold Zds;rw [if_neg (by have:=h.1;omega),h.2];rfl
 rw [<- Zf7 h0,<- Zf2 h0,hG]
 simp
def Fr (w : World) (na : Bool) (A : Option Addr) (n c : Nat) (nb : Bool) (B : Option Addr) (m d : Nat) (r : Rat) : Prop:=Wd w na A n c r.num /\ Wd w nb B m d (r.den : Nat)
theorem Fr.below {w w' : World} {na : Bool} {A : Option Addr} {n c : Nat} {nb : Bool} {B : Option Addr} {m d : Nat} {r : Rat} (h : Fr w na A n c nb B m d r) (hb : Below w.heap.size w w') : Fr w' na A n c nb B m d r:=⟨h.1.below hb,h.2.below hb⟩
theorem Fr.alloc {w : World} {na : Bool} {A : Option Addr} {n c : Nat} {nb : Bool} {B : Option Addr} {m d : Nat} {r : Rat} (h : Fr w na A n c nb B m d r) (o : Obj) : Fr (w.alloc o) na A n c nb B m d r:=⟨h.1.alloc o,h.2.alloc o⟩
theorem Fr.neg {w : World} {na : Bool} {A : Option Addr} {n c : Nat} {nb : Bool} {B : Option Addr} {m d : Nat} {r : Rat} (h : Fr w na A n c nb B m d r) : nb = false:=by
 have:=h.2.1;rw [this];simp
def Zdg (w : World) (r : Rat) (e : Ending) (w' : World) : Prop:=
 Below w.heap.size w w' /\ ∃ na A n c nb B m d,e = .returned (.agg #[.bool na,.slice A n c,.bool nb,.slice B m d]) /\ Fr w' na A n c nb B m d r
def Zed (w : World) (r : Rat) (e : Ending) (w' : World) : Prop:=
 Below w.heap.size w w' /\ ∃ na A n c nb B m d,e = .returned (.tuple #[.agg #[.bool na,.slice A n c,.bool nb,.slice B m d],.int .i64 0]) /\ Fr w' na A n c nb B m d r
def Zn5 (w W : World) (g : Nat) : Prop:=
 (∀ na A n c z,Wd w na A n c z -> Wd W na A n c z) /\ (∀ g' t' cs',g' ≠ g -> Blk w g' t' cs' -> Blk W g' t' cs') /\ W.heap.size = w.heap.size
theorem NoLimb.box4 (b : Bool) (A : Option Addr) (n c : Nat) (b' : Bool) (A' : Option Addr) (n' c' : Nat) : NoLimb #[.bool b,.slice A n c,.bool b',.slice A' n' c']:=fun i x=>by
 rcases i with _ | _ | _ | _ | i <;> simp
theorem Zag {t : TypeId} {B : Nat} {w0 w : World} {g : Nat} {b0 : Bool} {A0 : Option Addr} {n0 c0 : Nat} (neg : Bool) (A : Option Addr) (n c : Nat) (hB : Below B w0 w) (hs : B <= g) (hb : Blk w g t #[.bool b0,.slice A0 n0 c0]) :
    ∃ W,(w.setCell ⟨g,0,none⟩ (.bool neg)).setCell ⟨g,1,none⟩ (.slice A n c) = W /\ Below B w0 W /\ Blk W g t #[.bool neg,.slice A n c] /\ Zn5 w W g:=by
 have hb1 : Blk (w.setCell ⟨g,0,none⟩ (.bool neg)) g t #[.bool neg,.slice A0 n0 c0]:=hb.set_ 0 (.bool neg);have hb2 : Blk ((w.setCell ⟨g,0,none⟩ (.bool neg)).setCell ⟨g,1,none⟩ (.slice A n c)) g t #[.bool neg,.slice A n c]:=hb1.set_ 1 (.slice A n c);refine ⟨_,rfl,(hB.setCell (p:=⟨g,0,none⟩) hs _).setCell (p:=⟨g,1,none⟩) hs _,hb2,fun na A' n' c' z hW=>⟨hW.1,hW.2.1,(hW.2.2.set_box hb (NoLimb.box _ _ _ _) _ _).set_box hb1 (NoLimb.box _ _ _ _) _ _⟩,fun g' t' cs' hg h=>(h.far hg _).far hg _,by simp⟩
theorem Zac {t : TypeId} {B : Nat} {w0 w : World} {g : Nat} {a0 : Bool} {A0 : Option Addr} {n0 c0 : Nat} {b0 : Bool} {B0 : Option Addr} {m0 d0 : Nat} (na : Bool) (A : Option Addr) (n c : Nat) (nb : Bool) (B' : Option Addr) (m d : Nat) (hB : Below B w0 w) (hs : B <= g) (hb : Blk w g t #[.bool a0,.slice A0 n0 c0,.bool b0,.slice B0 m0 d0]) :
    ∃ W,(((w.setCell ⟨g,0,none⟩ (.bool na)).setCell ⟨g,1,none⟩ (.slice A n c)).setCell ⟨g,2,none⟩ (.bool nb)).setCell ⟨g,3,none⟩ (.slice B' m d) = W /\ Below B w0 W /\ Blk W g t #[.bool na,.slice A n c,.bool nb,.slice B' m d] /\ Zn5 w W g:=by
 have hb1 : Blk (w.setCell ⟨g,0,none⟩ (.bool na)) g t #[.bool na,.slice A0 n0 c0,.bool b0,.slice B0 m0 d0]:=hb.set_ 0 (.bool na);have hb2 : Blk ((w.setCell ⟨g,0,none⟩ (.bool na)).setCell ⟨g,1,none⟩ (.slice A n c)) g t #[.bool na,.slice A n c,.bool b0,.slice B0 m0 d0]:=hb1.set_ 1 (.slice A n c);have hb3 : Blk (((w.setCell ⟨g,0,none⟩ (.bool na)).setCell ⟨g,1,none⟩ (.slice A n c)).setCell ⟨g,2,none⟩ (.bool nb)) g t #[.bool na,.slice A n c,.bool nb,.slice B0 m0 d0]:=hb2.set_ 2 (.bool nb);have hb4 : Blk ((((w.setCell ⟨g,0,none⟩ (.bool na)).setCell ⟨g,1,none⟩ (.slice A n c)).setCell ⟨g,2,none⟩ (.bool nb)).setCell ⟨g,3,none⟩ (.slice B' m d)) g t #[.bool na,.slice A n c,.bool nb,.slice B' m d]:=hb3.set_ 3 (.slice B' m d);have hl:=NoLimb.box4;refine ⟨_,rfl,(((hB.setCell (p:=⟨g,0,none⟩) hs _).setCell (p:=⟨g,1,none⟩) hs _).setCell (p:=⟨g,2,none⟩) hs _).setCell (p:=⟨g,3,none⟩) hs _,hb4,fun na A' n' c' z hW=>⟨hW.1,hW.2.1,?_⟩,fun g' t' cs' hg h=>(((h.far hg _).far hg _).far hg _).far hg _,by simp⟩;exact (((hW.2.2.set_box hb (hl _ _ _ _ _ _ _ _) _ _).set_box hb1 (hl _ _ _ _ _ _ _ _) _ _).set_box hb2 (hl _ _ _ _ _ _ _ _) _ _).set_box hb3 (hl _ _ _ _ _ _ _ _) _ _
theorem Blk.two {w : World} {g : Nat} {t : TypeId} {x y : Value} (h : Blk w g t #[x,y]) : w.cell? ⟨g,0,none⟩ = some x /\ w.cell? ⟨g,1,none⟩ = some y /\ w.frozen? ⟨g,0,none⟩ = false /\ w.frozen? ⟨g,1,none⟩ = false:=
 ⟨h.cell 0,h.cell 1,h.frozen 0,h.frozen 1⟩
theorem Blk.four {w : World} {g : Nat} {t : TypeId} {x y z v : Value} (h : Blk w g t #[x,y,z,v]) : w.cell? ⟨g,0,none⟩ = some x /\ w.cell? ⟨g,1,none⟩ = some y /\ w.cell? ⟨g,2,none⟩ = some z /\ w.cell? ⟨g,3,none⟩ = some v /\ w.frozen? ⟨g,0,none⟩ = false /\ w.frozen? ⟨g,1,none⟩ = false /\ w.frozen? ⟨g,2,none⟩ = false /\ w.frozen? ⟨g,3,none⟩ = false:=
 ⟨h.cell 0,h.cell 1,h.cell 2,h.cell 3,h.frozen 0,h.frozen 1,h.frozen 2,h.frozen 3⟩
theorem Z5 {B : Nat} {w0 w : World} (t : TypeId) (cs : Array Value) (hB : Below B w0 w) (hs : B <= w.heap.size) :
    ∃ W,w.alloc (.cells cs t) = W /\ Below B w0 W /\ Blk W w.heap.size t cs /\ (∀ na A n c z,Wd w na A n c z -> Wd W na A n c z) /\ (∀ g' t' cs',Blk w g' t' cs' -> Blk W g' t' cs') /\ W.heap.size = w.heap.size + 1:=
 ⟨_,rfl,hB.alloc hs _,Blk.new _ _ _,fun _ _ _ _ _ h=>h.alloc _,fun _ _ _ h=>h.alloc _,by simp⟩
theorem Zec (w : World) (t0 : TypeId) (c0 : Array Value) (t1 : TypeId) (c1 : Array Value) :
    ∃ W,(w.alloc (.cells c0 t0)).alloc (.cells c1 t1) = W /\ Below w.heap.size w W /\ (Blk W w.heap.size t0 c0 /\ Blk W (w.heap.size + 1) t1 c1) /\ W.heap.size = w.heap.size + 1 + 1:=by
 refine ⟨_,rfl,((Below.refl w.heap.size w).alloc (Nat.le_refl _) _).alloc (by simp) _,⟨(Blk.new _ _ _).alloc _,?_⟩,by simp⟩;have:=Blk.new (w.alloc (.cells c0 t0)) t1 c1;simp only [World.size_alloc] at this;exact this
theorem Zbx (w : World) (t0 : TypeId) (c0 : Array Value) (t1 : TypeId) (c1 : Array Value) (t2 : TypeId) (c2 : Array Value) :
    ∃ W,((w.alloc (.cells c0 t0)).alloc (.cells c1 t1)).alloc (.cells c2 t2) = W /\ Below w.heap.size w W /\ (Blk W w.heap.size t0 c0 /\ Blk W (w.heap.size + 1) t1 c1 /\ Blk W (w.heap.size + 1 + 1) t2 c2) /\ W.heap.size = w.heap.size + 1 + 1 + 1:=by
 obtain ⟨W,hW,h1,h2,h3⟩:=Zec w t0 c0 t1 c1;refine ⟨_,rfl,?_,⟨?_,?_,?_⟩,by rw [hW];simp [h3]⟩ <;> rw [hW]
 ·exact h1.alloc (by omega) _
 ·exact h2.1.alloc _
 ·exact h2.2.alloc _
 ·rw [<- h3];exact Blk.new _ _ _
theorem Zfi (w : World) (t0 : TypeId) (c0 : Array Value) (t1 : TypeId) (c1 : Array Value) (t2 : TypeId) (c2 : Array Value) (t3 : TypeId) (c3 : Array Value) :
    ∃ W,(((w.alloc (.cells c0 t0)).alloc (.cells c1 t1)).alloc (.cells c2 t2)).alloc (.cells c3 t3) = W /\ Below w.heap.size w W /\ (Blk W w.heap.size t0 c0 /\ Blk W (w.heap.size + 1) t1 c1 /\ Blk W (w.heap.size + 1 + 1) t2 c2 /\ Blk W (w.heap.size + 1 + 1 + 1) t3 c3) /\ W.heap.size = w.heap.size + 1 + 1 + 1 + 1:=by
 obtain ⟨W,hW,h1,h2,h3⟩:=Zbx w t0 c0 t1 c1 t2 c2;refine ⟨_,rfl,?_,⟨?_,?_,?_,?_⟩,by rw [hW];simp [h3]⟩ <;> rw [hW]
 ·exact h1.alloc (by omega) _
 ·exact h2.1.alloc _
 ·exact h2.2.1.alloc _
 ·exact h2.2.2.alloc _
 ·rw [<- h3];exact Blk.new _ _ _
theorem Zbm {t : TypeId} {B : Nat} {w0 w : World} {g : Nat} {x0 : Int} (x : Int) (hB : Below B w0 w) (hs : B <= g) (hb : Blk w g t #[.int .i64 x0]) :
    ∃ W,w.setCell ⟨g,0,none⟩ (.int .i64 x) = W /\ Below B w0 W /\ Blk W g t #[.int .i64 x] /\ Zn5 w W g:=by
 have hb1 : Blk (w.setCell ⟨g,0,none⟩ (.int .i64 x)) g t #[.int .i64 x]:=hb.set_ 0 (.int .i64 x)
 have hl : NoLimb #[.int .i64 x0]:=fun i x=>by rcases i with _ | i <;> simp
 exact ⟨_,rfl,hB.setCell (p:=⟨g,0,none⟩) hs _,hb1,fun na A' n' c' z hW=>⟨hW.1,hW.2.1,hW.2.2.set_box hb hl _ _⟩,fun g' t' cs' hg h=>h.far hg _,by simp⟩
theorem Zfs (na : Bool) (A B : Option Addr) (n c m d : Nat) (za zb : Int) (w : World) (ha : Wd w na A n c za) (hb : Wd w false B m d zb) (h0 : 0 < zb) :
    Calls Tryz.prog 121 #[.agg #[.bool na,.slice A n c],.agg #[.bool false,.slice B m d]] w (Zdg w (Rat.divInt za zb)):=by
 have hgs:=Zcb ha.small hb.small;have hx:=Za (Zf7 (a:=za) (b:=zb) (by omega));have hy:=Za (Zf2 (a:=za) (b:=zb) (by omega));have hG0:=Za (Zhf (a:=za) (b:=zb) (by omega))
 have hGE : Zds za zb = (Nat.gcd za.natAbs zb.natAbs : Nat):=by unfold Zds;rw [if_neg (by omega)]
 rw [hGE] at hx hy hG0;have HA:=Za ha;have HB:=Za hb;obtain ⟨G,hG⟩ : ∃ G,Nat.gcd za.natAbs zb.natAbs = G:=⟨_,rfl⟩;rw [hG] at hx hy hG0 hgs
 have HGc : Hid (∀ W : World,Wd W na A n c za -> Wd W false B m d zb -> Calls Tryz.prog 136 #[.agg #[.bool na,.slice A n c],.agg #[.bool false,.slice B m d]] W (ResW W (G : Int))):=fun W h1 h2=>by
  have:=Zh9 na false A B n c m d za zb W h1 h2;rw [hG] at this;exact this
 generalize Rat.divInt za zb = R at *
 clear ha hb hG hGE
 have hB0 : ∀ X Y Z : Obj,Below w.heap.size w (((w.alloc X).alloc Y).alloc Z):=fun X Y Z=>(((Below.refl w.heap.size w).alloc (Nat.le_refl _) _).alloc (by simp) _).alloc (by simp;omega) _
 have hB0:=Za hB0;go_enter Tryz.func121,Tryz.ntmps121;go_wp2_with fail;have q0 : Blk (((w.alloc (.cells #[.bool na,.slice A n c] 62)).alloc (.cells #[.bool false,.slice B m d] 62)).alloc (.cells #[.bool false,.slice none 0 0,.bool false,.slice none 0 0] 64)) w.heap.size 62 #[.bool na,.slice A n c]:=((Blk.new _ _ _).alloc _).alloc _
 have q1 : Blk (((w.alloc (.cells #[.bool na,.slice A n c] 62)).alloc (.cells #[.bool false,.slice B m d] 62)).alloc (.cells #[.bool false,.slice none 0 0,.bool false,.slice none 0 0] 64)) (w.heap.size + 1) 62 #[.bool false,.slice B m d]:=by
  have:=(Blk.new (w.alloc (.cells #[.bool na,.slice A n c] 62)) 62 #[.bool false,.slice B m d]).alloc (.cells #[.bool false,.slice none 0 0,.bool false,.slice none 0 0] 64);simp only [World.size_alloc] at this;exact this
 have q2 : Blk (((w.alloc (.cells #[.bool na,.slice A n c] 62)).alloc (.cells #[.bool false,.slice B m d] 62)).alloc (.cells #[.bool false,.slice none 0 0,.bool false,.slice none 0 0] 64)) (w.heap.size + 1 + 1) 64 #[.bool false,.slice none 0 0,.bool false,.slice none 0 0]:=by
  have:=Blk.new ((w.alloc (.cells #[.bool na,.slice A n c] 62)).alloc (.cells #[.bool false,.slice B m d] 62)) 64 #[.bool false,.slice none 0 0,.bool false,.slice none 0 0];simp only [World.size_alloc] at this;exact this
 refine (HGc.out _ (((HA.out.alloc _).alloc _).alloc _) (((HB.out.alloc _).alloc _).alloc _)).mono ?_;rintro e w1 ⟨hb1,ng,Ag,kg,cg,code,rfl,hR⟩
 rcases hR with ⟨-,rfl,hgw⟩ | ⟨hbig,-⟩
 case inr=>exact absurd hbig (by omega)
 have hB1 : Below w.heap.size w w1:=(hB0.out _ _ _).trans (hb1.mono (by simp;omega));have HA1:=Za (HA.out.below hB1);have HB1:=Za (HB.out.below hB1)
 have s1 : w.heap.size + 1 + 1 < w1.heap.size:=by have:=hb1.size;simp at this;omega
 replace q0:=Zc hb1 q0;replace q1:=Zc hb1 q1;replace q2:=Zc hb1 q2;obtain ⟨c00,c01,-,-⟩:=q0.two;obtain ⟨c10,c11,-,-⟩:=q1.two;have hq:=Za (And.intro q0 (And.intro q1 q2));clear q0 q1 q2 hb1;go_wp2_with fail;refine (Zb5 ng Ag kg cg _).mono ?_;rintro e w2 ⟨rfl,hb2⟩;have hB2 : Below w.heap.size w w2:=hB1.trans (hb2.mono hB1.size);have HA2:=Za (HA1.out.below hb2);have HB2:=Za (HB1.out.below hb2);have HG2:=Za (hgw.below hb2)
 have s2 : w.heap.size + 1 + 1 < w2.heap.size:=by have:=hb2.size;omega
 have q0:=Zc hb2 hq.out.1;have q1:=Zc hb2 hq.out.2.1;have q2:=Zc hb2 hq.out.2.2;clear c00 c01 c10 c11 hB1 hb2 hgw HA1 HB1 hq;obtain ⟨W3,hW3,hB3,q3,kW,kB,s3⟩:=Z5 62 #[.bool ng,.slice Ag kg cg] hB2 (by omega);replace q0:=kB _ _ _ q0;replace q1:=kB _ _ _ q1;replace q2:=kB _ _ _ q2;have HA3:=Za (kW _ _ _ _ _ HA2.out);have HB3:=Za (kW _ _ _ _ _ HB2.out);have HG3:=Za (kW _ _ _ _ _ HG2.out);have s4 : w.heap.size + 1 + 1 < w2.heap.size:=s2;clear kW kB HA2 HB2 HG2 hB2;have c0:=Za q0.two;have c1:=Za q1.two;have c3:=Za q3.two;rw [<- hW3] at c0 c1 c3;obtain ⟨c00,c01,-,-⟩:=c0.out;obtain ⟨c10,c11,-,-⟩:=c1.out;obtain ⟨c30,c31,-,-⟩:=c3.out;have hq:=Za (And.intro q0 (And.intro q1 (And.intro q2 q3)));clear q0 q1 q2 q3;replace hW3:=Za hW3;go_wp2_with fail;rw [hW3.out];refine (Zdm na ng A Ag n c kg cg za G _ HA3.out HG3.out hG0.out).mono ?_;rintro e w4 ⟨hb4,nx,Ax,kx,cx,nr,Ar,kr,cr,rfl,hwx,-⟩;rw [hx.out] at hwx;have hB4 : Below w.heap.size w w4:=hB3.trans (hb4.mono (by omega));have HB4:=Za (HB3.out.below hb4);have HG4:=Za (HG3.out.below hb4)
 have s5 : w2.heap.size + 1 <= w4.heap.size:=by have:=hb4.size;omega
 have q1:=Zc hb4 hq.out.2.1;have q2:=Zc hb4 hq.out.2.2.1;have q3:=Zc hb4 hq.out.2.2.2;clear hb4 c0 c1 c3 c00 c01 c10 c11 c30 c31 hW3 HA3 HB3 HG3 hB3 hq;obtain ⟨W5,hW5,hB5,q5,kW,kB,s6⟩:=Z5 62 #[.bool nx,.slice Ax kx cx] hB4 (by omega);replace q1:=kB _ _ _ q1;replace q2:=kB _ _ _ q2;replace q3:=kB _ _ _ q3;have HB5:=Za (kW _ _ _ _ _ HB4.out);have HG5:=Za (kW _ _ _ _ _ HG4.out);have HX5:=Za (kW _ _ _ _ _ hwx);clear kW kB HB4 HG4 hwx hB4;obtain ⟨W6,hW6,hB6,-,kW,kB,s7⟩:=Z5 62 #[.bool nr,.slice Ar kr cr] hB5 (by omega);replace q1:=kB _ _ _ q1;replace q2:=kB _ _ _ q2;replace q3:=kB _ _ _ q3;replace q5:=kB _ _ _ q5;have HB6:=Za (kW _ _ _ _ _ HB5.out);have HG6:=Za (kW _ _ _ _ _ HG5.out);have HX6:=Za (kW _ _ _ _ _ HX5.out);clear kW kB HB5 HG5 HX5 hB5;have c1:=Za q1.two;have c3:=Za q3.two;rw [<- hW6,<- hW5] at c1 c3;obtain ⟨c10,c11,-,-⟩:=c1.out;obtain ⟨c30,c31,-,-⟩:=c3.out;have hq:=Za (And.intro q2 q5);clear q1 q2 q3 q5;rw [<- hW5] at hW6;replace hW6:=Za hW6;clear hW5;go_wp2_with fail;rw [hW6.out];refine (Zdm false ng B Ag m d kg cg zb G _ HB6.out HG6.out hG0.out).mono ?_;rintro e w7 ⟨hb7,ny,Ay,ky,cy,ns,As,ks,cs,rfl,hwy,-⟩;rw [hy.out] at hwy;have hB7 : Below w.heap.size w w7:=hB6.trans (hb7.mono (by omega));have HX7:=Za (HX6.out.below hb7)
 have s8 : w4.heap.size + 2 <= w7.heap.size:=by have:=hb7.size;omega
 have q2:=Zc hb7 hq.out.1;have q5:=Zc hb7 hq.out.2;clear hb7 c1 c3 c10 c11 c30 c31 hW6 HB6 HG6 HX6 hB6 hq;obtain ⟨W8,hW8,hB8,q8,kW,kB,s9⟩:=Z5 62 #[.bool ny,.slice Ay ky cy] hB7 (by omega);replace q2:=kB _ _ _ q2;replace q5:=kB _ _ _ q5;have HX8:=Za (kW _ _ _ _ _ HX7.out);have HY8:=Za (kW _ _ _ _ _ hwy);clear kW kB HX7 hwy hB7;obtain ⟨W9,hW9,hB9,-,kW,kB,s10⟩:=Z5 62 #[.bool ns,.slice As ks cs] hB8 (by omega);replace q2:=kB _ _ _ q2;replace q5:=kB _ _ _ q5;replace q8:=kB _ _ _ q8;have HX9:=Za (kW _ _ _ _ _ HX8.out);have HY9:=Za (kW _ _ _ _ _ HY8.out);clear kW kB HX8 HY8 hB8;have c5:=Za q5.two;have c8:=Za q8.two;have c2:=Za q2.four;have hq:=Za q2;rw [<- hW9,<- hW8] at c5 c8 c2;rw [<- hW8] at hW9;clear hW8 q2 q5 q8;obtain ⟨c50,c51,-,-⟩:=c5.out;obtain ⟨c80,c81,-,-⟩:=c8.out;obtain ⟨c20,c21,c22,c23,f20,f21,f22,f23⟩:=c2.out;replace hW9:=Za hW9;replace hB9:=Za hB9;go_wp2_with fail;rw [hW9.out];obtain ⟨W,hW,hB,hblk,kW,-⟩:=Zac nx Ax kx cx ny Ay ky cy hB9.out (by omega) hq.out;rw [hW];obtain ⟨r0,r1,r2,r3,-⟩:=hblk.four;refine bodyPost_ret (v:=.agg #[.bool nx,.slice Ax kx cx,.bool ny,.slice Ay ky cy]) (by simp [results,Tryz.results121,go_sem,r0,r1,r2,r3]) rfl ?_;exact ⟨hB,_,_,_,_,_,_,_,_,rfl,kW _ _ _ _ _ HX9.out,kW _ _ _ _ _ HY9.out⟩
theorem Zcp (w : World) :
    Calls Tryz.prog 84 #[.int .i64 0] w fun e w'=>e = .returned (.tuple #[]) /\ w' = w:=by
 go_enter Tryz.func84,Tryz.ntmps84;go_wp2_with fail
 go_end0
 exact ⟨rfl,rfl⟩
theorem Zbk (p : Addr) (w : World) :
    CallsD Tryz.prog 112 #[.pointer (some p)] .returning w fun e u' w'=>e = .returned (.tuple #[]) /\ u' = .returning /\ w' = w:=by
 refine callsD_of_wpS Tryz.func112 rfl fun c₀ cs hu=>?_
 apply wpS_seq
 apply wpS_region
 simp [wpOpsS,go_sem,recoverD,hu,Tryz.ntmps112,Exit.thenS]
 rw [show (#[Value.pointer (some p)] ++ (Array.replicate 14 undef).setIfInBounds 4 Value.nilIface) = #[Value.pointer (some p),undef,undef,undef,undef,Value.nilIface,undef,undef,undef,undef,undef,undef,undef,undef,undef] from rfl];refine wpS_of_wp ?_;go_wp2_with fail
 cases c₀
 simp_all [bodyPostS,results,Tryz.results112]
theorem Zq4 (na : Bool) (A B : Option Addr) (n c m d : Nat) (za zb : Int) (w : World) (ha : Wd w na A n c za) (hb : Wd w false B m d zb) (h0 : 0 < zb) :
    Calls Tryz.prog 97 #[.agg #[.bool na,.slice A n c],.agg #[.bool false,.slice B m d]] w (Zed w (Rat.divInt za zb)):=by
 have hm0 : 0 < m:=by rw [<- hb.lim.len];exact length_digits_pos.2 (by omega)
 have hm0' : ((m : Int) == 0) = false:=by simp;omega
 have hm:=hb.2.1;have HA:=Za ha;have HB:=Za hb;clear ha hb;obtain ⟨W0,hW0,hB0,hq,s0⟩:=Zfi w 62 #[.bool na,.slice A n c] 62 #[.bool false,.slice B m d] 64 #[.bool false,.slice none 0 0,.bool false,.slice none 0 0] 27 #[.int .i64 0];replace hW0:=Za hW0;replace hq:=Za hq
 go_enter_defers Tryz.func97,Tryz.ntmps97
 go_wp2_with fail;rw [hW0.out];have HA0:=Za (HA.out.below hB0);have HB0:=Za (HB.out.below hB0);clear HA HB hW0;refine (Zjo na A n c _ W0 HA0.out.lim).mono ?_;rw [HA0.out.ok];rintro e w1 ⟨rfl,hb1⟩;have hB1 : Below w.heap.size w w1:=hB0.trans (hb1.mono hB0.size);have s1 : W0.heap.size <= w1.heap.size:=hb1.size;have HA1:=Za (HA0.out.below hb1);have HB1:=Za (HB0.out.below hb1);obtain ⟨q0,q1,q2,q3⟩:=hq.out;replace q0:=Zc hb1 q0;replace q1:=Zc hb1 q1;replace q2:=Zc hb1 q2;replace q3:=Zc hb1 q3;obtain ⟨c00,c01,-,-⟩:=q0.two;obtain ⟨c10,c11,-,-⟩:=q1.two;clear hq hb1 HA0 HB0 hB0;have hq:=Za (And.intro q0 (And.intro q1 (And.intro q2 q3)));clear q0 q1 q2 q3;simp only [Zee,if_true];go_wp2_with fail;refine (Zcp w1).mono ?_;rintro e w1 ⟨rfl,rfl⟩;go_wp2_with fail;refine (Zjo false B m d _ w1 HB1.out.lim).mono ?_;rw [HB1.out.ok];rintro e w2 ⟨rfl,hb2⟩;have hB2 : Below w.heap.size w w2:=hB1.trans (hb2.mono hB1.size);have s2 : w1.heap.size <= w2.heap.size:=hb2.size;have HA2:=Za (HA1.out.below hb2);have HB2:=Za (HB1.out.below hb2);obtain ⟨q0,q1,q2,q3⟩:=hq.out;replace q0:=Zc hb2 q0;replace q1:=Zc hb2 q1;replace q2:=Zc hb2 q2;replace q3:=Zc hb2 q3;clear c00 c01 c10 c11;obtain ⟨c00,c01,-,-⟩:=q0.two;obtain ⟨c10,c11,-,-⟩:=q1.two;clear hq hb2 HA1 HB1 hB1;have hq:=Za (And.intro q0 (And.intro q1 (And.intro q2 q3)));clear q0 q1 q2 q3;simp only [Zee,if_true];go_wp2_with fail;refine (Zcp w2).mono ?_;rintro e w2 ⟨rfl,rfl⟩;go_wp2_with fail;refine (Zdx false B m d w2 (by omega) false hm0').mono ?_
 rintro e w3 ⟨rfl,hb3⟩;have hB3 : Below w.heap.size w w3:=hB2.trans (hb3.mono hB2.size);have s3 : w2.heap.size <= w3.heap.size:=hb3.size;have HA3:=Za (HA2.out.below hb3);have HB3:=Za (HB2.out.below hb3);obtain ⟨q0,q1,q2,q3⟩:=hq.out;replace q0:=Zc hb3 q0;replace q1:=Zc hb3 q1;replace q2:=Zc hb3 q2;replace q3:=Zc hb3 q3;clear c00 c01 c10 c11;obtain ⟨c00,c01,-,-⟩:=q0.two;obtain ⟨c10,c11,-,-⟩:=q1.two;clear hq hb3 HA2 HB2 hB2;have hq:=Za (And.intro q2 q3);clear q0 q1 q2 q3;go_wp2_with fail;refine (Zfs na A B n c m d za zb w3 HA3.out HB3.out h0).mono ?_;rintro e w4 ⟨hb4,nx,Ax,kx,cx,ny,Ay,ky,cy,rfl,hF⟩;have hB4 : Below w.heap.size w w4:=hB3.trans (hb4.mono hB3.size);have s4 : w3.heap.size <= w4.heap.size:=hb4.size;have q2:=Zc hb4 hq.out.1;have q3:=Zc hb4 hq.out.2;clear hq hb4 HA3 HB3 hB3 c00 c01 c10 c11;have c2:=Za q2.four;have c3:=q3.cell 0;have f3:=q3.frozen 0
 simp at c3
 obtain ⟨c20,c21,c22,c23,f20,f21,f22,f23⟩:=c2.out;have hq:=Za (And.intro q2 q3);clear q2 q3;go_wp2_with fail;obtain ⟨W5,hW5,hB5,q2,kW,kB,s5⟩:=Zac nx Ax kx cx ny Ay ky cy hB4 (by omega) hq.out.1;have q3:=kB _ _ _ (by omega) hq.out.2;have HX5:=Za (kW _ _ _ _ _ hF.1);have HY5:=Za (kW _ _ _ _ _ hF.2);rw [hW5];clear kW kB c20 c21 c22 c23 c3 f3 f20 f21 f22 f23 hq hF;obtain ⟨W6,hW6,hB6,q3,kW,kB,s6⟩:=Zbm 0 hB5 (by omega) q3;replace q2:=kB _ _ _ (by omega) q2;have HX6:=Za (kW _ _ _ _ _ HX5.out);have HY6:=Za (kW _ _ _ _ _ HY5.out);rw [hW6];obtain ⟨r0,r1,r2,r3,-⟩:=q2.four;have r4:=q3.cell 0
 simp at r4
 clear kW kB hB5 HX5 HY5 hW5 hW6;refine leaves_cons (f:=112) (args:=#[.pointer (some ⟨w.heap.size + 1 + 1 + 1,0,none⟩)]) (by simp) (by simp [go_sem]) ?_;refine (Zbk _ _).mono ?_;rintro e u' w'' ⟨rfl,rfl,rfl⟩;refine ⟨.tuple #[.agg #[.bool nx,.slice Ax kx cx,.bool ny,.slice Ay ky cy],.int .i64 0],by simp [results,Tryz.results97,go_sem,r0,r1,r2,r3,r4],?_⟩;exact ⟨hB6,_,_,_,_,_,_,_,_,rfl,HX6.out,HY6.out⟩
end Go.Proofs.YtkcbhbddgmkoiaaGreat
