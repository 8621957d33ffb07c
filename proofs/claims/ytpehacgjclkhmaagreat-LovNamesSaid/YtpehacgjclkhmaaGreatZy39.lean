/- What lies in memory while covar's factor reckons (plain). -/
import Derived.Deep.LoopGhost
import Derived.Test.YtpehacgjclkhmaaGreatZy38
set_option maxRecDepth 100000
set_option maxHeartbeats 1000000
set_option linter.unusedSimpArgs false
set_option linter.unusedVariables false
namespace Go.Proofs.YtpehacgjclkhmaaGreat
open Go.RowKit
theorem Zco {P : Program} {ops : Array Oper} {Q : Exit -> Act -> World -> Prop} {md : Region.Mode} {L : List Nat} {S : World -> Prop} {i j : Nat} {oi oj : Oper} {fuel : Nat} {listed : Array Bool} {a : Act} {w : World} (hi : ops[i]? = some oi) (hj : ops[j]? = some oj) (hr : Region.ready md ops listed = [i,j])
    (h1 : ∀ K' : Act -> World -> Prop,Shut (∀ a w,(Zb1 L (listed.setIfInBounds i true) = true -> S w) -> Z0 P md ops Q L S fuel (listed.setIfInBounds i true) a w -> K' a w) -> if Region.wanted oi (yielded ops a.tmps) = true then Oper.wp P oi a w K' Q else K' (a.put oi.dst undef) w)
    (h2 : ∀ K' : Act -> World -> Prop,Shut (∀ a w,(Zb1 L (listed.setIfInBounds j true) = true -> S w) -> Z0 P md ops Q L S fuel (listed.setIfInBounds j true) a w -> K' a w) -> if Region.wanted oj (yielded ops a.tmps) = true then Oper.wp P oj a w K' Q else K' (a.put oj.dst undef) w) :
    Z0 P md ops Q L S (fuel + 1) listed a w:=
 ⟨(fun h0=>by rw [h0] at hr;cases hr),fun k hk=>by
  rw [hr] at hk
  rcases List.mem_cons.1 hk with e | e
  ·subst e;exact wpOp_step hi (fun K' hK=>h1 K' (fun a w hS hW=>hK a w ⟨hS,hW⟩))
  ·rw [List.mem_singleton] at e;subst e;exact wpOp_step hj (fun K' hK=>h2 K' (fun a w hS hW=>hK a w ⟨hS,hW⟩))⟩
def FacM (tS tN : TypeId) (w : World) (base : Nat) (v1 v2 : Value) (rs : List RS) (Q : List (List Rat)) (ds : List Rat) : Prop:=
 MatOA tS tN w base v1 rs Q /\ OwnF tN w base v2 ds /\ ∀ r ∈ rs,∀ k,r.val.ownBlock = some k -> v2.ownBlock ≠ some k
section
variable {tS tN : TypeId} {w w' : World} {base : Nat} {v v1 v1' v2 v2' : Value} {rs : List RS} {Q : List (List Rat)} {ds qs : List Rat}
theorem OwnF.blt (h : OwnF tN w base v qs) : ∀ k,v.ownBlock = some k -> k < w.heap.size:=fun k hk=>by
 obtain ⟨cs,hb,-,-⟩:=h.ownBlk k hk;exact hb.lt
theorem OwnF.grownO {b : Nat} (h : OwnF tN w b v qs) (hg : w.grownBy w' v2.ownBlock) (hne : ∀ k,v.ownBlock = some k -> v2.ownBlock ≠ some k) (hk : ∀ (A : Option Addr) (n c : Nat) (l : List Nat),Lim w A n c l -> Lim w' A n c l) : OwnF tN w' b v qs:=by
 obtain ⟨es,e1,e2,e3⟩:=h;refine ⟨es,?_,fun e he=>(e2 e he).of_keep hk,e3⟩
 rcases e1 with e1 | ⟨g2,sp,e4,e5,e6,e7⟩
 ·exact .inl e1
 ·exact .inr ⟨g2,sp,e4,e5,e6,(hg.block g2 e7.lt (fun e=>hne g2 (by rw [e4];rfl) (by first | exact e | exact e.symm))).trans e7⟩
theorem RowS.grownR {rs : List RS} (h : RowS tS w base v1 rs) (hO : OwnF tN w base v2 ds) (hts : tS ≠ tN) (hg : w.grownBy w' v2.ownBlock) : RowS tS w' base v1 rs:=by
 rcases h with h | ⟨g',sp,h1,h2,h3,h4⟩
 ·exact .inl h
 ·refine .inr ⟨g',sp,h1,h2,h3,(hg.block g' h4.lt (fun e=>?_)).trans h4⟩
  obtain ⟨cs,a,-,-⟩:=hO.ownBlk g' (by first | exact e | exact e.symm);exact hts (h4.type a)
theorem RowS.keptG {rs : List RS} (h : RowS tS w base v1 rs) {g : Nat} (hg : g < base) (hk : Kept (fun k=>k = g) w w') : RowS tS w' base v1 rs:=by
 rcases h with h | ⟨g',sp,h1,h2,h3,h4⟩
 ·exact .inl h
 ·exact .inr ⟨g',sp,h1,h2,h3,hk.blk h4 (by omega)⟩
theorem FacM.nil (tS tN : TypeId) (w : World) (base : Nat) : FacM tS tN w base (.slice none 0 0) (.slice none 0 0) [] [] []:=⟨MatOA.nil _ _ _ _,OwnF.nil _ _ _,fun r hr=>(by cases hr)⟩
theorem FacM.kept (h : FacM tS tN w base v1 v2 rs Q ds) (hb : Below w.heap.size w w') : FacM tS tN w' base v1 v2 rs Q ds:=⟨h.1.kept hb,h.2.1.kept hb,h.2.2⟩
theorem FacM.rlt (h : FacM tS tN w base v1 v2 rs Q ds) : ∀ s ∈ rs,∀ k,s.val.ownBlock = some k -> k < w.heap.size:=fun s hs k hk=>by
 obtain ⟨i,hi,e⟩:=List.getElem_of_mem hs;exact (h.1.2.2.1 i s (by rw [List.getElem?_eq_getElem hi,e])).blt k hk
theorem FacM.snocL (h : FacM tS tN w base v1 v2 rs Q ds) (hts : tS ≠ tN) {r : RS} {q : List Rat} {b : Nat} (ho : OwnF tN w b r.val q) (hb : base <= b) (hlt : ∀ s ∈ rs,∀ k,s.val.ownBlock = some k -> k < b) (hl2 : ∀ k,v2.ownBlock = some k -> k < b) (h1 : RowS tS w' base v1' (rs ++ [r])) (hg : w.grownBy w' v1.ownBlock) (hk : ∀ (A : Option Addr) (n c : Nat) (l : List Nat),Lim w A n c l -> Lim w' A n c l) :
    FacM tS tN w' base v1' v2 (rs ++ [r]) (Q ++ [q]) ds:=by
 refine ⟨h.1.snoc hts ho hb hlt h1 hg hk,h.2.1.grownT hts h.1.1 hg hk,fun s hs k hsk e=>?_⟩
 rcases List.mem_append.1 hs with hs | hs
 ·exact h.2.2 s hs k hsk e
 ·rw [List.mem_singleton] at hs
  subst hs;have h2:=ho.row_ge k hsk;have h3:=hl2 k e;omega
theorem FacM.snocD (h : FacM tS tN w base v1 v2 rs Q ds) (hts : tS ≠ tN) {qs : List Rat} (hO : OwnF tN w' base v2' qs) (hg : w.grownBy w' v2.ownBlock) (hk : ∀ (A : Option Addr) (n c : Nat) (l : List Nat),Lim w A n c l -> Lim w' A n c l)
    (hw : v2'.ownBlock = v2.ownBlock \/ ∀ k,v2'.ownBlock = some k -> w.heap.size <= k) : FacM tS tN w' base v1 v2' rs Q qs:=by
 refine ⟨⟨h.1.1.grownR h.2.1 hts hg,h.1.2.1,fun i r hr=>(h.1.2.2.1 i r hr).grownO hg (fun k hk=>h.2.2 r (List.mem_of_getElem? hr) k hk) hk,h.1.2.2.2⟩,hO,fun s hs k hsk e=>?_⟩
 rcases hw with hw | hw
 ·exact h.2.2 s hs k hsk (by rw [<- hw];exact e)
 ·have h2:=hw k e
  have h3:=h.rlt s hs k hsk;omega
theorem FacM.box (h : FacM tS tN w base v1 v2 rs Q ds) {g : Nat} {t : TypeId} {cs : Array Value} (hb : Blk w g t cs) (hn : NoLimb cs) (hg : g < base) (hk : Kept (fun k=>k = g) w w') : FacM tS tN w' base v1 v2 rs Q ds:=
 ⟨⟨h.1.1.keptG hg hk,h.1.2.1,fun i r hr=>(h.1.2.2.1 i r hr).keptG hb hn (fun e=>by have:=(h.1.2.2.1 i r hr).row_ge g e;omega) hk,h.1.2.2.2⟩,h.2.1.keptG hb hn (fun e=>by have:=h.2.1.row_ge g e;omega) hk,h.2.2⟩
theorem MatOA.mflA (h : MatOA tS tN w base v rs Q) : ∃ A c,v = .slice A Q.length c /\ MFL w A Q.length c Q:=by
 obtain ⟨A,c,e,hM⟩:=h.1.mfl h.2.1 (fun i r hr=>(h.2.2.1 i r hr).rsn.2);rw [h.2.1] at e hM;exact ⟨A,c,e,hM⟩
end
theorem FL.pair2 {w : World} {g : Nat} {t : TypeId} {xn : Bool} {xA : Option Addr} {xk xc : Nat} {xm : Bool} {xB : Option Addr} {xj xd : Nat} {yn : Bool} {yA : Option Addr} {yk yc : Nat} {ym : Bool} {yB : Option Addr} {yj yd : Nat} {p q : Rat} (h : Blk w g t #[.bool xn,.slice xA xk xc,.bool xm,.slice xB xj xd,.bool yn,.slice yA yk yc,.bool ym,.slice yB yj yd]) (hp : Fr w xn xA xk xc xm xB xj xd p) (hq : Fr w yn yA yk yc ym yB yj yd q) : FL w (some ⟨g,0,none⟩) 2 2 [p,q]:=by
 refine ⟨[⟨xn,xA,xk,xc,xm,xB,xj,xd,p⟩,⟨yn,yA,yk,yc,ym,yB,yj,yd,q⟩],rfl,Nat.le_refl _,by unfold maxLen;omega,fun e he=>?_,rfl,fun _=>⟨g,0,rfl,fun k r hr=>?_⟩⟩
 ·simp only [List.mem_cons,List.not_mem_nil,or_false] at he
  rcases he with rfl | rfl
  ·exact hp
  ·exact hq
 ·match k,hr with
  | 0,hr=>cases hr;exact ⟨h.cell 0,h.cell 1,h.cell 2,h.cell 3⟩
  | 1,hr=>cases hr;exact ⟨h.cell 4,h.cell 5,h.cell 6,h.cell 7⟩
  | k + 2,hr=>simp at hr
theorem FL.atS {w : World} {g o n c : Nat} {qs : List Rat} (h : FL w (some ⟨g,o,none⟩) n c qs) {k : Nat} (hk : k < n) : ∃ na A1 n1 c1 nb B m d,At4 w g (o + k * 4) na A1 n1 c1 nb B m d /\ Fr w na A1 n1 c1 nb B m d (qs[k]?.getD 0):=by
 obtain ⟨g',o',na,A1,n1,c1,nb,B,m,d,e,h1,h2⟩:=h.at_ hk
 cases e
 exact ⟨_,_,_,_,_,_,_,_,h1,h2⟩
theorem Zb6 (A : Option Addr) (n c : Nat) (B : Option Addr) (m d : Nat) : NoLimb #[.slice A n c,.slice B m d]:=fun i k=>by
 match i with
 | 0=>simp
 | 1=>simp
 | i + 2=>simp
def EnvF (tS tN tX : TypeId) (w : World) (base bo gl gx : Nat) (v1 v2 V1 V2 own : Value) (rs : List RS) (Q : List (List Rat)) (ds q : List Rat) (ln : Bool) (lA : Option Addr) (lk lc : Nat) (lm : Bool) (lB : Option Addr) (lj ld : Nat) (d : Rat) : Prop:=
 FacM tS tN w base v1 v2 rs Q ds /\ OwnF tN w bo own q /\ Blk w gl tN #[.bool ln,.slice lA lk lc,.bool lm,.slice lB lj ld] /\ Fr w ln lA lk lc lm lB lj ld d /\ Blk w gx tX #[V1,V2]
def EnvG (tS tN tX : TypeId) (w : World) (base gl gx : Nat) (v1 v2 V1 V2 : Value) (rs : List RS) (Q : List (List Rat)) (ds : List Rat) (ln : Bool) (lA : Option Addr) (lk lc : Nat) (lm : Bool) (lB : Option Addr) (lj ld : Nat) (d : Rat) : Prop:=
 FacM tS tN w base v1 v2 rs Q ds /\ Blk w gl tN #[.bool ln,.slice lA lk lc,.bool lm,.slice lB lj ld] /\ Fr w ln lA lk lc lm lB lj ld d /\ Blk w gx tX #[V1,V2]
section
variable {tS tN tX : TypeId} {w w' : World} {base bo gl gx : Nat} {v1 v1' v2 v2' V1 V2 own : Value} {rs : List RS} {Q : List (List Rat)} {ds q : List Rat} {ln : Bool} {lA : Option Addr} {lk lc : Nat} {lm : Bool} {lB : Option Addr} {lj ld : Nat} {d : Rat}
theorem EnvF.below (h : EnvF tS tN tX w base bo gl gx v1 v2 V1 V2 own rs Q ds q ln lA lk lc lm lB lj ld d) (hb : Below w.heap.size w w') : EnvF tS tN tX w' base bo gl gx v1 v2 V1 V2 own rs Q ds q ln lA lk lc lm lB lj ld d:=
 ⟨h.1.kept hb,h.2.1.kept hb,Zc hb h.2.2.1,h.2.2.2.1.below hb,Zc hb h.2.2.2.2⟩
theorem EnvG.below (h : EnvG tS tN tX w base gl gx v1 v2 V1 V2 rs Q ds ln lA lk lc lm lB lj ld d) (hb : Below w.heap.size w w') : EnvG tS tN tX w' base gl gx v1 v2 V1 V2 rs Q ds ln lA lk lc lm lB lj ld d:=
 ⟨h.1.kept hb,Zc hb h.2.1,h.2.2.1.below hb,Zc hb h.2.2.2⟩
theorem EnvF.cells (h : EnvF tS tN tX w base bo gl gx v1 v2 V1 V2 own rs Q ds q ln lA lk lc lm lB lj ld d) : w.cell? ⟨gx,0,none⟩ = some V1 /\ w.cell? ⟨gx,1,none⟩ = some V2:=by
 have:=h.2.2.2.2;exact ⟨by rw [this.cell];rfl,by rw [this.cell];rfl⟩
theorem EnvG.cells (h : EnvG tS tN tX w base gl gx v1 v2 V1 V2 rs Q ds ln lA lk lc lm lB lj ld d) : w.cell? ⟨gx,0,none⟩ = some V1 /\ w.cell? ⟨gx,1,none⟩ = some V2:=by
 have:=h.2.2.2;exact ⟨by rw [this.cell];rfl,by rw [this.cell];rfl⟩
theorem EnvF.left (h : EnvF tS tN tX w base bo gl gx v1 v2 V1 V2 own rs Q ds q ln lA lk lc lm lB lj ld d) : w.cell? ⟨gl,0,none⟩ = some (.bool ln) /\ w.cell? ⟨gl,1,none⟩ = some (.slice lA lk lc) /\ w.cell? ⟨gl,2,none⟩ = some (.bool lm) /\ w.cell? ⟨gl,3,none⟩ = some (.slice lB lj ld):=by
 obtain ⟨a,b,c,d,-⟩:=h.2.2.1.four;exact ⟨a,b,c,d⟩
theorem EnvG.left (h : EnvG tS tN tX w base gl gx v1 v2 V1 V2 rs Q ds ln lA lk lc lm lB lj ld d) : w.cell? ⟨gl,0,none⟩ = some (.bool ln) /\ w.cell? ⟨gl,1,none⟩ = some (.slice lA lk lc) /\ w.cell? ⟨gl,2,none⟩ = some (.bool lm) /\ w.cell? ⟨gl,3,none⟩ = some (.slice lB lj ld):=by
 obtain ⟨a,b,c,d,-⟩:=h.2.1.four;exact ⟨a,b,c,d⟩
theorem EnvF.far {t : TypeId} {g : Nat} {cs : Array Value} (h : EnvF tS tN tX w base bo gl gx v1 v2 V1 V2 own rs Q ds q ln lA lk lc lm lB lj ld d) (hts : tS ≠ t) (hg : w.grownBy w' v1.ownBlock) (hb : Blk w g t cs) : Blk w' g t cs:=
 (hg.block g hb.lt (fun e=>h.1.1.1.ownType hb hts (by first | exact e | exact e.symm))).trans hb
theorem EnvF.app (h : EnvF tS tN tX w base bo gl gx v1 v2 V1 V2 own rs Q ds q ln lA lk lc lm lB lj ld d) (hts : tS ≠ tN) {r : RS} (hr : r.val = own) (hbb : base <= bo) (hlt : ∀ s ∈ rs,∀ k,s.val.ownBlock = some k -> k < bo) (hl2 : ∀ k,v2.ownBlock = some k -> k < bo) (hgx : gx < base) (h1 : RowS tS w' base v1' (rs ++ [r])) (hg : w.grownBy w' v1.ownBlock) (hk : ∀ (A : Option Addr) (n c : Nat) (l : List Nat),Lim w A n c l -> Lim w' A n c l) :
    EnvG tS tN tX w' base gl gx v1' v2 V1 V2 (rs ++ [r]) (Q ++ [q]) ds ln lA lk lc lm lB lj ld d:=by
 refine ⟨h.1.snocL hts (hr ▸ h.2.1) hbb hlt hl2 h1 hg hk,h.far hts hg h.2.2.1,⟨⟨h.2.2.2.1.1.1,h.2.2.2.1.1.2.1,hk _ _ _ _ h.2.2.2.1.1.2.2⟩,⟨h.2.2.2.1.2.1,h.2.2.2.1.2.2.1,hk _ _ _ _ h.2.2.2.1.2.2.2⟩⟩,?_⟩;exact (hg.block gx h.2.2.2.2.lt (fun e=>by have:=h.1.1.1.row_ge gx (by first | exact e | exact e.symm);omega)).trans h.2.2.2.2
theorem EnvG.app (h : EnvG tS tN tX w base gl gx v1 v2 V1 V2 rs Q ds ln lA lk lc lm lB lj ld d) (hts : tS ≠ tN) (hgx : gx < base) {qs : List Rat} (hO : OwnF tN w' base v2' qs) (hg : w.grownBy w' v2.ownBlock) (hk : ∀ (A : Option Addr) (n c : Nat) (l : List Nat),Lim w A n c l -> Lim w' A n c l)
    (hw : v2'.ownBlock = v2.ownBlock \/ ∀ k,v2'.ownBlock = some k -> w.heap.size <= k) : FacM tS tN w' base v1 v2' rs Q qs /\ Blk w' gx tX #[V1,V2]:=
 ⟨h.1.snocD hts hO hg hk hw,(hg.block gx h.2.2.2.lt (fun e=>by have:=h.1.2.1.row_ge gx (by first | exact e | exact e.symm);omega)).trans h.2.2.2⟩
theorem Kept.grownC {G : Nat -> Prop} {W0 : World} {row : Option Nat} (h : Kept G W0 w) (hg : w.grownBy w' row) (hr : ∀ k,row = some k -> W0.heap.size <= k) : Kept G W0 w':=
 ⟨hg.os.trans h.os,hg.tape.trans h.tape,hg.output.trans h.output,Nat.le_trans h.size hg.size,fun k hk hG=>(hg.block k (Nat.lt_of_lt_of_le hk h.size) (fun e=>by have:=hr k (by first | exact e | exact e.symm);omega)).trans (h.block k hk hG)⟩
end
attribute [local go_sem] Zg
section
variable {Q : List (List Rat)} {xs : List Rat} {n : Nat}
end
section
variable {R : List (List Rat)} {n m : Nat}
end
section
variable {t : TypeId} {w w' : World} {g n i : Nat} {x : Nat -> Rat}
end
def IdxC (w : World) (b : Bool) (e : Ending) (w' : World) : Prop:=∃ i : Int,e = .returned (.int .i64 i) /\ decide (0 <= i) = b /\ Below w.heap.size w w'
theorem Zpv (na nb : Bool) (A B : Option Addr) (n c m d : Nat) (la lb : List Nat) (w : World) (ha : Lim w A n c la) (hb : Lim w B m d lb) (b : Bool) (hx : (decide (max n m <= 64) && okF na la nb lb) = b) :
    Calls Tryz.prog 91 #[.agg #[.bool na,.slice A n c,.bool nb,.slice B m d]] w fun e w'=>e = .returned (.bool (!b)) /\ Below w.heap.size w w':=by
 obtain ⟨W0,hW0,hB0,q0,s0⟩:=Zb3 w 29 #[.bool na,.slice A n c,.bool nb,.slice B m d];obtain ⟨a0,a1,a2,a3,-⟩:=q0.four;have ha0:=Nat.le_trans ha.2.1 ha.2.2.1;have hb0:=Nat.le_trans hb.2.1 hb.2.2.1;unfold maxLen at ha0 hb0;obtain ⟨y,hy⟩ : ∃ y,okF na la nb lb = y:=⟨_,rfl⟩;rw [hy] at hx;have hC:=Za (fun W1 (h1 : Below w.heap.size w W1)=>Zl5 na nb A B n c m d la lb W1 (ha.below h1) (hb.below h1) y hy);clear ha hb hy
 have hmx : max (n : Int) (m : Int) = ((max n m : Nat) : Int):=by omega
 by_cases h8 : max n m <= 64
 ·have t1 : decide ((64 : Int) < ((max n m : Nat) : Int)) = false:=decide_eq_false (by omega)
  have t1' : decide (64 < max n m) = false:=decide_eq_false (by omega);have t1'' : decide ((64 : Int) < max (n : Int) (m : Int)) = false:=decide_eq_false (by omega);rw [decide_eq_true h8,Bool.true_and] at hx;subst hx
  cases y
  ·go_enter Tryz.func91,Tryz.ntmps91
   go_wp2_with fail;refine (hC.out _ (by first | exact hB0 | exact Zi hB0 _)).mono ?_;rintro e w1 ⟨rfl,hb1⟩;simp only [Zf2,Bool.false_eq_true,if_false];go_wp2_with fail;go_ret;exact ⟨rfl,(by first | exact hB0.trans (hb1.mono hB0.size) | exact (Zi hB0 _).trans (hb1.mono hB0.size))⟩
  ·go_enter Tryz.func91,Tryz.ntmps91
   go_wp2_with fail;refine (hC.out _ (by first | exact hB0 | exact Zi hB0 _)).mono ?_;rintro e w1 ⟨rfl,hb1⟩;simp only [Zf2,if_true];go_wp2_with fail;go_ret;exact ⟨rfl,(by first | exact hB0.trans (hb1.mono hB0.size) | exact (Zi hB0 _).trans (hb1.mono hB0.size))⟩
 ·have t1 : decide ((64 : Int) < ((max n m : Nat) : Int)) = true:=decide_eq_true (by omega)
  have t1' : decide (64 < max n m) = true:=decide_eq_true (by omega);have t1'' : decide ((64 : Int) < max (n : Int) (m : Int)) = true:=decide_eq_true (by omega);rw [decide_eq_false h8,Bool.false_and] at hx;subst hx;go_enter Tryz.func91,Tryz.ntmps91;go_wp2_with fail;go_ret;exact ⟨rfl,(by first | exact hB0 | exact Zi hB0 _)⟩
theorem Zpn (A : Option Addr) (n c : Nat) (es : List FX) (w : World) (h : FXL w A n c es) (b : Bool) (hb : Zdg es = b) :
    Calls Tryz.prog 142 #[.slice A n c,.func (.func 91) #[] #[]] w (IdxC w (!b)):=by
 have hl:=h.1;have hnc:=h.2.1;have hcm:=h.2.2.1;unfold maxLen at hcm;replace hl:=Za hl;replace hb:=Za hb;replace h:=Za h;go_enter Tryz.func142,Tryz.ntmps142;go_wp2_with fail
 go_loopw [8] (fun iv wr=>∃ i : Nat,i <= n /\ iv = .int .i64 i /\ Hid (∀ j e,j < i -> es[j]? = some e -> e.fine64 = true) /\ Below w.heap.size w wr) (fun iv _=>n - (intOf iv).toNat)
 case atStart=>exact ⟨0,Nat.zero_le _,rfl,Za (fun j e hj=>by omega),Below.refl _ _⟩
 case round =>
  obtain ⟨i,hik,rfl,hall,hBp⟩:=hrel
  by_cases hin : i < n
  case neg =>
   obtain rfl : n = i:=by omega
   have htk : decide ((n : Int) < (n : Int)) = false:=by simp
   obtain rfl : b = true:=by
    rw [<- hb.out];unfold Zdg;rw [List.all_eq_true];intro e he;obtain ⟨j,hj,hje⟩:=List.getElem_of_mem he;exact hall.out j e (by rw [hl.out] at hj;exact hj) (by rw [List.getElem?_eq_getElem hj,hje])
   go_wp2_with fail;go_ret;exact ⟨-1,rfl,rfl,hBp⟩
  have htk : decide ((i : Int) < (n : Int)) = true:=decide_eq_true (by omega);obtain ⟨g,o,e,rfl,he,hc,hLa,hLb⟩:=(h.out.below hBp).at_ hin;obtain ⟨c0,c1,c2,c3⟩:=hc;obtain ⟨x,hx⟩ : ∃ x,e.fine64 = x:=⟨_,rfl⟩;have hC:=Za (fun W1 (hb : Below wr.heap.size wr W1)=>Zpv e.na e.nb e.A e.B e.n e.c e.m e.d e.la e.lb W1 (hLa.below hb) (hLb.below hb) x hx);clear hLa hLb
  cases x
  ·obtain rfl : b = false:=by
     rw [<- hb.out];unfold Zdg;rw [List.all_eq_false];exact ⟨e,List.mem_of_getElem? he,by rw [hx];decide⟩
   replace he:=Za he;clear hx;go_wp2_with fail;refine (hC.out _ (by first | exact Below.refl _ _ | exact Zi (Below.refl _ _) _)).mono ?_;rintro e' w1 ⟨rfl,hb1⟩;go_wp2_with fail;go_ret;exact ⟨i,rfl,by simp,(by first | exact hBp.trans (hb1.mono hBp.size) | exact (Zi hBp _).trans (hb1.mono hBp.size))⟩
  ·have hall2 : Hid (∀ j e,j < i + 1 -> es[j]? = some e -> e.fine64 = true):=Za (fun j e' hj he'=>by
     rcases Nat.lt_or_ge j i with h' | h'
     ·exact hall.out j e' h' he'
     ·obtain rfl : j = i:=by omega
      rw [he] at he'
      cases he'
      exact hx)
   replace he:=Za he;clear hx;go_wp2_with fail;refine (hC.out _ (by first | exact Below.refl _ _ | exact Zi (Below.refl _ _) _)).mono ?_;rintro e' w1 ⟨rfl,hb1⟩;go_wp2_with fail
   go_roundw
   case rel=>exact ⟨i + 1,by omega,by go_num,hall2,(by first | exact hBp.trans (hb1.mono hBp.size) | exact (Zi hBp _).trans (hb1.mono hBp.size))⟩
   case measure=>simp [intOf];omega
theorem Zou (A : Option Addr) (n c : Nat) (es : List FX) (w : World) (h : FXL w A n c es) (b : Bool) (hb : Zdg es = b) :
    Calls Tryz.prog 90 #[.slice A n c,.func (.func 91) #[] #[]] w fun e w'=>e = .returned (.bool (!b)) /\ Below w.heap.size w w':=by
 go_enter Tryz.func90,Tryz.ntmps90;go_wp2_with fail;refine (Zpn A n c es w h b hb).mono ?_;rintro e w1 ⟨i,rfl,hi,hb1⟩;replace hi:=Za hi;go_wp2_with fail;go_ret;exact ⟨Zlb hi.out,hb1⟩
theorem Zkw (A : Option Addr) (n c : Nat) (es : List FX) (w : World) (h : FXL w A n c es) (b : Bool) (hb : Zdg es = b) :
    Calls Tryz.prog 44 #[.slice A n c] w fun e w'=>e = .returned (.bool b) /\ Below w.heap.size w w':=by
 go_enter Tryz.func44,Tryz.ntmps44;go_wp2_with fail;refine (Zou A n c es w h b hb).mono ?_;rintro e w1 ⟨rfl,hb1⟩;go_wp2_with fail;go_ret;exact ⟨by simp,hb1⟩
theorem Zn9 (A : Option Addr) (n c : Nat) (w : World) (hn : n <= maxLen) :
    Calls Tryz.prog 86 #[.slice A n c] w fun e w'=>e = .returned (.bool (decide (6 < n))) /\ Below w.heap.size w w':=by
 unfold maxLen at hn;have hd : decide ((6 : Int) < (n : Int)) = decide (6 < n):=decide_eq_decide.2 (by omega);go_enter Tryz.func86,Tryz.ntmps86;go_wp2_with fail;go_ret;exact ⟨by first | rfl | simp [hd],by first | exact Below.refl _ _ | exact Zi (Below.refl _ _) _⟩
theorem FXL.nlenC {w : World} {A : Option Addr} {n c : Nat} {es : List FX} (h : FXL w A n c es) : n <= maxLen:=Nat.le_trans h.2.1 h.2.2.1
theorem Zos (A : Option Addr) (n c : Nat) (rs : List RX) (w : World) (h : MXL w A n c rs) (b : Bool) (hb : rs.any RX.long6 = b) :
    Calls Tryz.prog 141 #[.slice A n c,.func (.func 86) #[] #[]] w (IdxC w b):=by
 have hl:=h.1;have hnc:=h.2.1;have hcm:=h.2.2.1;unfold maxLen at hcm;replace hl:=Za hl;replace hb:=Za hb;replace h:=Za h;go_enter Tryz.func141,Tryz.ntmps141;go_wp2_with fail
 go_loopw [8] (fun iv wr=>∃ i : Nat,i <= n /\ iv = .int .i64 i /\ Hid (∀ j e,j < i -> rs[j]? = some e -> e.long6 = false) /\ Below w.heap.size w wr) (fun iv _=>n - (intOf iv).toNat)
 case atStart=>exact ⟨0,Nat.zero_le _,rfl,Za (fun j e hj=>by omega),Below.refl _ _⟩
 case round =>
  obtain ⟨i,hik,rfl,hall,hBp⟩:=hrel
  by_cases hin : i < n
  case neg =>
   obtain rfl : n = i:=by omega
   have htk : decide ((n : Int) < (n : Int)) = false:=by simp
   obtain rfl : b = false:=by
    rw [<- hb.out,List.any_eq_false];intro e he;obtain ⟨j,hj,hje⟩:=List.getElem_of_mem he;have:=hall.out j e (by rw [hl.out] at hj;exact hj) (by rw [List.getElem?_eq_getElem hj,hje]);rw [this];decide
   go_wp2_with fail;go_ret;exact ⟨-1,rfl,rfl,hBp⟩
  have htk : decide ((i : Int) < (n : Int)) = true:=decide_eq_true (by omega);obtain ⟨g,o,r,rfl,he,c0,hL⟩:=(h.out.below hBp).at_ hin;have hC:=Za (fun W1=>Zn9 r.A r.n r.c W1 hL.nlenC);clear hL
  by_cases hx : 6 < r.n
  ·obtain rfl : b = true:=by
     rw [<- hb.out,List.any_eq_true];exact ⟨r,List.mem_of_getElem? he,by unfold RX.long6;simpa using hx⟩
   rw [decide_eq_true hx] at hC;replace he:=Za he;go_wp2_with fail;refine (hC.out _).mono ?_;rintro e' w1 ⟨rfl,hb1⟩;go_wp2_with fail;go_ret;exact ⟨i,rfl,by simp,(by first | exact hBp.trans (hb1.mono hBp.size) | exact (Zi hBp _).trans (hb1.mono hBp.size))⟩
  ·have hall2 : Hid (∀ j e,j < i + 1 -> rs[j]? = some e -> e.long6 = false):=Za (fun j e' hj he'=>by
     rcases Nat.lt_or_ge j i with h' | h'
     ·exact hall.out j e' h' he'
     ·obtain rfl : j = i:=by omega
      rw [he] at he'
      cases he'
      unfold RX.long6;simpa using hx)
   rw [decide_eq_false hx] at hC;replace he:=Za he;go_wp2_with fail;refine (hC.out _).mono ?_;rintro e' w1 ⟨rfl,hb1⟩;go_wp2_with fail
   go_roundw
   case rel=>exact ⟨i + 1,by omega,by go_num,hall2,(by first | exact hBp.trans (hb1.mono hBp.size) | exact (Zi hBp _).trans (hb1.mono hBp.size))⟩
   case measure=>simp [intOf];omega
theorem Zng (A : Option Addr) (n c : Nat) (rs : List RX) (w : World) (h : MXL w A n c rs) (b : Bool) (hb : rs.any RX.long6 = b) :
    Calls Tryz.prog 87 #[.slice A n c,.func (.func 86) #[] #[]] w fun e w'=>e = .returned (.bool b) /\ Below w.heap.size w w':=by
 go_enter Tryz.func87,Tryz.ntmps87;go_wp2_with fail;refine (Zos A n c rs w h b hb).mono ?_;rintro e w1 ⟨i,rfl,hi,hb1⟩;replace hi:=Za hi;go_wp2_with fail;go_ret;exact ⟨Zlb hi.out,hb1⟩
def covV (rs : List RX) : Prop:=long6 rs = false /\ rs.length ≠ 0 /\ rs.all (Zck rs.length) = true
def FacC (rs : List RX) : Prop:=covV rs -> Zey (qM rs) = true -> FacP (Zm (qM rs)) rs.length
section
variable {w : World} {A : Option Addr} {n c : Nat} {rs : List RX}
theorem covV.facts (h : covV rs) : 0 < rs.length /\ rs.length <= 6 /\ ∀ r ∈ rs,r.n = rs.length /\ Zdg r.es = true:=by
 obtain ⟨h1,h2,h3⟩:=h;unfold long6 at h1;rw [Bool.or_eq_false_iff] at h1;have h6:=of_decide_eq_false h1.1;refine ⟨by omega,by omega,fun r hr=>?_⟩;rw [List.all_eq_true] at h3;have h7:=h3 r hr;unfold Zck at h7;rw [Bool.and_eq_true,decide_eq_true_eq] at h7;exact h7
theorem Zmj (h : Za8 rs = 0) : covV rs /\ Zey (qM rs) = true /\ posP (Zm (qM rs)) rs.length:=by
 obtain ⟨h1,h2,h3,h4,h5⟩:=Zmm h;refine ⟨⟨?_,by omega,?_⟩,h4,h5⟩
 ·cases hl : long6 rs with
  | false=>rfl
  | true=>rw [Zf9 hl] at h;cases h
 ·rw [List.all_eq_true]
  intro r hr;unfold Zck;rw [Bool.and_eq_true,decide_eq_true_eq];exact h3 r hr
theorem covV.E (h : covV rs) : Za8 rs = if (Zey (qM rs) && Zls (Zm (qM rs)) rs.length) = true then 0 else 8:=by
 obtain ⟨h1,h2,h3⟩:=h;unfold Za8;rw [if_neg (by rw [h1];decide),if_neg h2,if_pos h3]
theorem covV.asym (h : covV rs) (hs : Zey (qM rs) = false) : Za8 rs = 8:=by rw [h.E,hs];rfl
theorem covV.pos (h : covV rs) (hs : Zey (qM rs) = true) (hp : posP (Zm (qM rs)) rs.length) : Za8 rs = 0:=by
 rw [h.E,hs,posB_iff.2 hp];rfl
theorem covV.neg (h : covV rs) (hs : Zey (qM rs) = true) (hp : ¬ posP (Zm (qM rs)) rs.length) : Za8 rs = 8:=by
 have : Zls (Zm (qM rs)) rs.length = false:=by
  cases hb : Zls (Zm (qM rs)) rs.length with
  | false=>rfl
  | true=>exact absurd (posB_iff.1 hb) hp
 rw [h.E,hs,this];rfl
theorem covV.good (hV : covV rs) (h : MXL w A n c rs) : MFL w A n c (qM rs):=h.mfl fun r hr=>Zq6 (hV.facts.2.2 r hr).2
theorem covV.row (hV : covV rs) (h : MXL w A n c rs) (i : Nat) (hi : i < n) : ((qM rs)[i]?.getD []).length = n:=by
 unfold qM;rw [List.getElem?_map,List.getElem?_eq_getElem (by rw [h.1];exact hi)];simp only [Option.map_some,Option.getD_some,List.length_map];have hr : rs[i]'(by rw [h.1];exact hi) ∈ rs:=List.getElem_mem _;have h4:=(h.2.2.2.1 _ hr).1;rw [h4,(hV.facts.2.2 _ hr).1,h.1]
theorem covV.small (hV : covV rs) (h : MXL w A n c rs) {k : Nat} (hf : fewM k rs) : SmE k (qM rs):=fun i j=>by
 unfold Zm qM;rw [List.getElem?_map]
 cases hr : rs[i]? with
 | none=>exact ⟨Nat.zero_le _,Zdx _⟩
 | some r =>
  simp only [Option.map_some,Option.getD_some,List.getElem?_map]
  cases he : r.es[j]? with
  | none=>exact ⟨Nat.zero_le _,Zdx _⟩
  | some e =>
   simp only [Option.map_some,Option.getD_some];have hrm:=List.mem_of_getElem? hr;have hem:=List.mem_of_getElem? he;have h5:=(hV.facts.2.2 r hrm).2;unfold Zdg at h5;rw [List.all_eq_true] at h5;have h6:=h5 e hem;unfold FX.fine64 at h6;rw [Bool.and_eq_true,decide_eq_true_eq] at h6;refine Zqm ((h.2.2.2.1 r hrm).2.2.2.1 e hem) h6.2 ?_
   rcases hf r hrm e hem with h7 | h7 <;> omega
theorem covV.small64 (hV : covV rs) (h : MXL w A n c rs) : SmE 64 (qM rs):=hV.small h (fun r _ e _=>Nat.lt_or_ge 64 e.few |>.symm)
theorem SmE.smC {k : Nat} {Q : List (List Rat)} (h : SmE k Q) (hk : k < 1000) (i j : Nat) : Sm (Zm Q i j):=
 ⟨Nat.lt_of_le_of_lt (h i j).1 (Zgi hk),Nat.lt_of_le_of_lt (h i j).2 (Zgi hk)⟩
theorem covV.fac (hV : covV rs) (h : MXL w A n c rs) (hs : Zey (qM rs) = true) {k : Nat} (hf : fewM k rs) (hb : (k * n + k + 1) * n + ((k * n + k + 1) * n + k * n) + 2 <= 300) : FacP (Zm (qM rs)) n:=by
 have h6:=hV.facts.2.1;have hl : (qM rs).length = n:=qM_len h;have hn : rs.length = n:=h.1;exact FacP.of (hV.small h hf) hl (by omega) (fun i hi=>hV.row h i hi) (fun i k hi hk=>symB_iff.1 hs i k (by omega) (by omega)) hb
theorem FacC.of (h : MXL w A n c rs) {k : Nat} (hf : fewM k rs) (hb : n <= 6 -> (k * n + k + 1) * n + ((k * n + k + 1) * n + k * n) + 2 <= 300) : FacC rs:=fun hV hs=>by
 have hn : rs.length = n:=h.1;rw [hn];exact hV.fac h hs hf (hb (by have:=hV.facts.2.1;omega))
theorem MFL.atS {w : World} {g o n c : Nat} {Q : List (List Rat)} (h : MFL w (some ⟨g,o,none⟩) n c Q) {k : Nat} (hk : k < n) : ∃ A' n' c',w.cell? ⟨g,o + k,none⟩ = some (.slice A' n' c') /\ FL w A' n' c' (Q[k]?.getD []):=by
 obtain ⟨g',o',A',n',c',e,h1,h2⟩:=h.at_ hk
 cases e
 exact ⟨_,_,_,h1,h2⟩
theorem cmpQ_zero {a b : Rat} : cmpQ a b = 0 ↔ a = b:=by
 unfold cmpQ
 constructor
 ·intro h
  split at h
  ·cases h
  ·split at h
   ·cases h
   ·rename_i h1 h2
    exact Rat.le_antisymm (Rat.not_lt.1 h2) (Rat.not_lt.1 h1)
 ·intro h
  subst h;rw [if_neg Rat.lt_irrefl,if_neg Rat.lt_irrefl]
end
theorem SmN.zeroC (a b : Nat) : SmN (a + 1) (b + 1) 0:=⟨by have:=Zdx (a + 1);show (0 : Rat).num.natAbs < _;exact this,by
 show (1 : Nat) < pw (b + 1);rw [Z8];have:=Zdx b
 omega⟩
section
variable {Q : List (List Rat)} {n : Nat}
end
end Go.Proofs.YtpehacgjclkhmaaGreat
