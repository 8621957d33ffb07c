/- Packages kepler and reference of kepler: Check. States in -/
import Derived.Deep.LoopGhost
import Derived.Test.YtaioanjcjijckaaGreatZl42
set_option maxRecDepth 100000
set_option maxHeartbeats 16000000
set_option linter.unusedSimpArgs false
set_option linter.unusedVariables false
namespace Go.Proofs.YtaioanjcjijckaaGreat
open Go.RowKit
attribute [local go_sem] Zg
def outB (x y z m : Int) : Bool:=decide (m < x \/ m < y \/ m < z \/ x < -m \/ y < -m \/ z < -m)
theorem Znp (x y z m : Int) (hm : 0 <= m) (hm2 : m <= 9223372036854775807) (w : World) :
    Calls Tryz.prog 139 #[.agg #[.int .i64 x,.int .i64 y,.int .i64 z],.int .i64 m] w fun e w'=>e = .returned (.bool (outB x y z m)) /\ Below w.heap.size w w':=by
 have hB0 : ∀ X : Obj,Below w.heap.size w (w.alloc X):=fun X=>(Below.refl w.heap.size w).alloc (Nat.le_refl _) _
 have hB0:=Za hB0;go_enter Tryz.func139,Tryz.ntmps139;go_wp2_with fail
 all_goals go_ret
 all_goals refine ⟨?_,hB0.out _⟩
 all_goals
  refine congrArg (fun b=>Ending.returned (.bool b)) ?_
  first
   | exact (decide_eq_true (by omega)).symm
   | (unfold outB;rw [Bool.eq_iff_iff];simp;omega)
structure St where
 t : Int
 p0 : Int
 p1 : Int
 p2 : Int
 v0 : Int
 v1 : Int
 v2 : Int
def stE (s : St) : Int:=if s.t < -5000000000000000 \/ 5000000000000000 < s.t \/ (s.p0 = 0 /\ s.p1 = 0 /\ s.p2 = 0) \/ outB s.p0 s.p1 s.p2 8796093022208 = true \/ outB s.v0 s.v1 s.v2 1099511627776 = true then 8 else 0
theorem Zaf {w : World} {g : Nat} {t : TypeId} {a b c d e f h : Value} (q : Blk w g t #[a,b,c,d,e,f,h]) : w.cell? ⟨g,0,none⟩ = some a /\ w.cell? ⟨g,1,none⟩ = some b /\ w.cell? ⟨g,2,none⟩ = some c /\ w.cell? ⟨g,3,none⟩ = some d /\ w.cell? ⟨g,4,none⟩ = some e /\ w.cell? ⟨g,5,none⟩ = some f /\ w.cell? ⟨g,6,none⟩ = some h:=
 ⟨q.cell 0,q.cell 1,q.cell 2,q.cell 3,q.cell 4,q.cell 5,q.cell 6⟩
theorem Zkl (s : St) (w : World) :
    Calls Tryz.prog 76 #[.agg #[.int .i64 s.t,.int .i64 s.p0,.int .i64 s.p1,.int .i64 s.p2,.int .i64 s.v0,.int .i64 s.v1,.int .i64 s.v2]] w fun e w'=>e = .returned (.int .i64 (stE s)) /\ Below w.heap.size w w':=by
 obtain ⟨t,p0,p1,p2,v0,v1,v2⟩:=s;simp only
 have hB0 : ∀ X : Obj,Below w.heap.size w (w.alloc X):=fun X=>(Below.refl w.heap.size w).alloc (Nat.le_refl _) _
 have hq0 : Blk (w.alloc (.cells #[.int .i64 t,.int .i64 p0,.int .i64 p1,.int .i64 p2,.int .i64 v0,.int .i64 v1,.int .i64 v2] 46)) w.heap.size 46 #[.int .i64 t,.int .i64 p0,.int .i64 p1,.int .i64 p2,.int .i64 v0,.int .i64 v1,.int .i64 v2]:=Blk.new w _ _;have hB0:=Za hB0;replace hq0:=Za hq0
 have hEq:=fun w=>Zm3 p0 p1 p2 w
 obtain ⟨E,hE⟩ : ∃ E,stE ⟨t,p0,p1,p2,v0,v1,v2⟩ = E:=⟨_,rfl⟩;rw [hE];replace hE:=Za hE;have hOut:=Za (fun W x y z m h1 h2=>Znp x y z m h1 h2 W);go_enter Tryz.func76,Tryz.ntmps76
 by_cases h1 : t < -5000000000000000
 ·have t1 : decide (t < -5000000000000000) = true:=decide_eq_true h1
  go_wp2_with fail;go_ret
  have h8 : E = 8:=by rw [<- hE.out];exact if_pos (Or.inl h1)
  exact ⟨by rw [h8];rfl,hB0.out _⟩
 have t1 : decide (t < -5000000000000000) = false:=decide_eq_false h1
 by_cases h2 : 5000000000000000 < t
 ·have t2 : decide (5000000000000000 < t) = true:=decide_eq_true h2
  go_wp2_with fail;go_ret
  have h8 : E = 8:=by rw [<- hE.out];exact if_pos (Or.inr (Or.inl h2))
  exact ⟨by rw [h8];rfl,hB0.out _⟩
 have t2 : decide (5000000000000000 < t) = false:=decide_eq_false h2
 by_cases h3 : p0 = 0 /\ p1 = 0 /\ p2 = 0
 ·obtain ⟨rfl,rfl,rfl⟩:=h3
  go_wp2_with fail;go_ret
  have h8 : E = 8:=by rw [<- hE.out];exact if_pos (Or.inr (Or.inr (Or.inl ⟨rfl,rfl,rfl⟩)))
  exact ⟨by rw [h8];rfl,hB0.out _⟩
 have t3 : (decide (p0 = 0) && decide (p1 = 0) && decide (p2 = 0)) = false:=by
  rw [Bool.eq_false_iff];intro h;simp at h;exact h3 ⟨h.1.1,h.1.2,h.2⟩
 rw [t3] at hEq;go_wp2_with fail;refine (hOut.out _ _ _ _ _ (by omega) (by omega)).mono ?_;rintro e w1 ⟨rfl,hb1⟩;have hB1 : Hid (Below w.heap.size w w1):=Za ((hB0.out _).trans (hb1.mono (by simp)));obtain ⟨c0,c1,c2,c3,c4,c5,c6⟩:=Zaf (Zb hb1 hq0.out);clear hb1
 cases h4 : outB p0 p1 p2 8796093022208 with
 | true =>
  go_wp2_with fail;go_ret
  have h8 : E = 8:=by rw [<- hE.out];exact if_pos (Or.inr (Or.inr (Or.inr (Or.inl h4))))
  exact ⟨by rw [h8];rfl,hB1.out⟩
 | false =>
  go_wp2_with fail;refine (hOut.out _ _ _ _ _ (by omega) (by omega)).mono ?_;rintro e w2 ⟨rfl,hb2⟩;have hB2 : Hid (Below w.heap.size w w2):=Za (hB1.out.trans (hb2.mono hB1.out.size));clear hb2
  cases h5 : outB v0 v1 v2 1099511627776 with
  | true =>
   go_wp2_with fail;go_ret
   have h8 : E = 8:=by rw [<- hE.out];exact if_pos (Or.inr (Or.inr (Or.inr (Or.inr h5))))
   exact ⟨by rw [h8];rfl,hB2.out⟩
  | false =>
   go_wp2_with fail;go_ret
   have h8 : E = 0:=by
    rw [<- hE.out]
    exact if_neg (by
     rintro (h | h | h | h | h)
     ·simp only at h;omega
     ·simp only at h;omega
     ·exact h3 h
     ·rw [h4] at h;cases h
     ·rw [h5] at h;cases h)
   exact ⟨by rw [h8];rfl,hB2.out⟩
def Zia (s : St) (i : Nat) : Prop:=(0 < i -> ¬ (s.p0 < -8796093022208 \/ 8796093022208 < s.p0 \/ s.v0 < -1099511627776 \/ 1099511627776 < s.v0)) /\ (1 < i -> ¬ (s.p1 < -8796093022208 \/ 8796093022208 < s.p1 \/ s.v1 < -1099511627776 \/ 1099511627776 < s.v1)) /\ (2 < i -> ¬ (s.p2 < -8796093022208 \/ 8796093022208 < s.p2 \/ s.v2 < -1099511627776 \/ 1099511627776 < s.v2))
theorem Zhr (s : St) (w : World) :
    Calls Tryz.prog 79 #[.agg #[.int .i64 s.t,.int .i64 s.p0,.int .i64 s.p1,.int .i64 s.p2,.int .i64 s.v0,.int .i64 s.v1,.int .i64 s.v2]] w fun e w'=>e = .returned (.int .i64 (stE s)) /\ Below w.heap.size w w':=by
 obtain ⟨t,p0,p1,p2,v0,v1,v2⟩:=s;simp only
 have hB0 : ∀ X : Obj,Below w.heap.size w (w.alloc X):=fun X=>(Below.refl w.heap.size w).alloc (Nat.le_refl _) _
 have hq0 : Blk (w.alloc (.cells #[.int .i64 t,.int .i64 p0,.int .i64 p1,.int .i64 p2,.int .i64 v0,.int .i64 v1,.int .i64 v2] 46)) w.heap.size 46 #[.int .i64 t,.int .i64 p0,.int .i64 p1,.int .i64 p2,.int .i64 v0,.int .i64 v1,.int .i64 v2]:=Blk.new w _ _;have hB0:=Za hB0
 have hEq:=fun w=>Zm3 p0 p1 p2 w
 obtain ⟨E,hE⟩ : ∃ E,stE ⟨t,p0,p1,p2,v0,v1,v2⟩ = E:=⟨_,rfl⟩;rw [hE];replace hE:=Za hE;obtain ⟨c0,c1,c2,c3,c4,c5,c6⟩:=Zaf hq0;clear hq0;go_enter Tryz.func79,Tryz.ntmps79
 by_cases h1 : t < -5000000000000000
 ·have t1 : decide (t < -5000000000000000) = true:=decide_eq_true h1
  go_wp2_with fail;go_ret
  have h8 : E = 8:=by rw [<- hE.out];exact if_pos (Or.inl h1)
  exact ⟨by rw [h8];rfl,hB0.out _⟩
 have t1 : decide (t < -5000000000000000) = false:=decide_eq_false h1
 by_cases h2 : 5000000000000000 < t
 ·have t2 : decide (5000000000000000 < t) = true:=decide_eq_true h2
  go_wp2_with fail;go_ret
  have h8 : E = 8:=by rw [<- hE.out];exact if_pos (Or.inr (Or.inl h2))
  exact ⟨by rw [h8];rfl,hB0.out _⟩
 have t2 : decide (5000000000000000 < t) = false:=decide_eq_false h2
 by_cases h3 : p0 = 0 /\ p1 = 0 /\ p2 = 0
 ·obtain ⟨rfl,rfl,rfl⟩:=h3
  go_wp2_with fail;go_ret
  have h8 : E = 8:=by rw [<- hE.out];exact if_pos (Or.inr (Or.inr (Or.inl ⟨rfl,rfl,rfl⟩)))
  exact ⟨by rw [h8];rfl,hB0.out _⟩
 have t3 : (decide (p0 = 0) && decide (p1 = 0) && decide (p2 = 0)) = false:=by
  rw [Bool.eq_false_iff];intro h;simp at h;exact h3 ⟨h.1.1,h.1.2,h.2⟩
 rw [t3] at hEq;replace h3:=Za h3;obtain ⟨W0,hW0⟩ : ∃ W,w.alloc (.cells #[.int .i64 t,.int .i64 p0,.int .i64 p1,.int .i64 p2,.int .i64 v0,.int .i64 v1,.int .i64 v2] 46) = W:=⟨_,rfl⟩;have hBW : Hid (Below w.heap.size w W0):=Za (by rw [<- hW0];exact hB0.out _);rw [hW0] at c0 c1 c2 c3 c4 c5 c6;replace hW0:=Za hW0;go_wp2_with fail;rw [hW0.out]
 go_loopg [3] 3 (fun k iv wr=>wr = W0 /\ ∃ i : Nat,i + k = 3 /\ iv = .int .i64 i /\ Hid (Zia ⟨t,p0,p1,p2,v0,v1,v2⟩ i))
 case atStart=>exact ⟨rfl,0,by omega,rfl,Za ⟨fun h=>by omega,fun h=>by omega,fun h=>by omega⟩⟩
 case round =>
  obtain ⟨rfl,i,hik,rfl,hin⟩:=hrel
  rcases (show i = 0 \/ i = 1 \/ i = 2 \/ i = 3 by omega) with rfl | rfl | rfl | rfl
  ·obtain rfl : gk = 3:=by omega
   by_cases ka : p0 < -8796093022208
   ·have ua : decide (p0 < -8796093022208) = true:=decide_eq_true ka
    go_wp2_with fail;go_ret
    have h8 : E = 8:=by rw [<- hE.out];exact if_pos (Or.inr (Or.inr (Or.inr (Or.inl (decide_eq_true (by simp only;omega))))))
    exact ⟨by rw [h8];rfl,hBW.out⟩
   have ua : decide (p0 < -8796093022208) = false:=decide_eq_false ka
   by_cases kb : 8796093022208 < p0
   ·have ub : decide (8796093022208 < p0) = true:=decide_eq_true kb
    go_wp2_with fail;go_ret
    have h8 : E = 8:=by rw [<- hE.out];exact if_pos (Or.inr (Or.inr (Or.inr (Or.inl (decide_eq_true (by simp only;omega))))))
    exact ⟨by rw [h8];rfl,hBW.out⟩
   have ub : decide (8796093022208 < p0) = false:=decide_eq_false kb
   by_cases kc : v0 < -1099511627776
   ·have uc : decide (v0 < -1099511627776) = true:=decide_eq_true kc
    go_wp2_with fail;go_ret
    have h8 : E = 8:=by rw [<- hE.out];exact if_pos (Or.inr (Or.inr (Or.inr (Or.inr (decide_eq_true (by simp only;omega))))))
    exact ⟨by rw [h8];rfl,hBW.out⟩
   have uc : decide (v0 < -1099511627776) = false:=decide_eq_false kc
   by_cases kd : 1099511627776 < v0
   ·have ud : decide (1099511627776 < v0) = true:=decide_eq_true kd
    go_wp2_with fail;go_ret
    have h8 : E = 8:=by rw [<- hE.out];exact if_pos (Or.inr (Or.inr (Or.inr (Or.inr (decide_eq_true (by simp only;omega))))))
    exact ⟨by rw [h8];rfl,hBW.out⟩
   have ud : decide (1099511627776 < v0) = false:=decide_eq_false kd;have hin2 : Hid (Zia ⟨t,p0,p1,p2,v0,v1,v2⟩ 1):=Za ⟨fun _=>by simp only;omega,fun h=>by omega,fun h=>by omega⟩;go_wp2_with fail
   go_roundg 2
   case measure=>omega
   case rel=>exact ⟨rfl,1,by omega,by go_num,hin2⟩
  ·obtain rfl : gk = 2:=by omega
   by_cases ka : p1 < -8796093022208
   ·have ua : decide (p1 < -8796093022208) = true:=decide_eq_true ka
    go_wp2_with fail;go_ret
    have h8 : E = 8:=by rw [<- hE.out];exact if_pos (Or.inr (Or.inr (Or.inr (Or.inl (decide_eq_true (by simp only;omega))))))
    exact ⟨by rw [h8];rfl,hBW.out⟩
   have ua : decide (p1 < -8796093022208) = false:=decide_eq_false ka
   by_cases kb : 8796093022208 < p1
   ·have ub : decide (8796093022208 < p1) = true:=decide_eq_true kb
    go_wp2_with fail;go_ret
    have h8 : E = 8:=by rw [<- hE.out];exact if_pos (Or.inr (Or.inr (Or.inr (Or.inl (decide_eq_true (by simp only;omega))))))
    exact ⟨by rw [h8];rfl,hBW.out⟩
   have ub : decide (8796093022208 < p1) = false:=decide_eq_false kb
   by_cases kc : v1 < -1099511627776
   ·have uc : decide (v1 < -1099511627776) = true:=decide_eq_true kc
    go_wp2_with fail;go_ret
    have h8 : E = 8:=by rw [<- hE.out];exact if_pos (Or.inr (Or.inr (Or.inr (Or.inr (decide_eq_true (by simp only;omega))))))
    exact ⟨by rw [h8];rfl,hBW.out⟩
   have uc : decide (v1 < -1099511627776) = false:=decide_eq_false kc
   by_cases kd : 1099511627776 < v1
   ·have ud : decide (1099511627776 < v1) = true:=decide_eq_true kd
    go_wp2_with fail;go_ret
    have h8 : E = 8:=by rw [<- hE.out];exact if_pos (Or.inr (Or.inr (Or.inr (Or.inr (decide_eq_true (by simp only;omega))))))
    exact ⟨by rw [h8];rfl,hBW.out⟩
   have ud : decide (1099511627776 < v1) = false:=decide_eq_false kd;have hin2 : Hid (Zia ⟨t,p0,p1,p2,v0,v1,v2⟩ 2):=Za ⟨fun h=>hin.out.1 (by omega),fun _=>by simp only;omega,fun h=>by omega⟩;go_wp2_with fail
   go_roundg 1
   case measure=>omega
   case rel=>exact ⟨rfl,2,by omega,by go_num,hin2⟩
  ·obtain rfl : gk = 1:=by omega
   by_cases ka : p2 < -8796093022208
   ·have ua : decide (p2 < -8796093022208) = true:=decide_eq_true ka
    go_wp2_with fail;go_ret
    have h8 : E = 8:=by rw [<- hE.out];exact if_pos (Or.inr (Or.inr (Or.inr (Or.inl (decide_eq_true (by simp only;omega))))))
    exact ⟨by rw [h8];rfl,hBW.out⟩
   have ua : decide (p2 < -8796093022208) = false:=decide_eq_false ka
   by_cases kb : 8796093022208 < p2
   ·have ub : decide (8796093022208 < p2) = true:=decide_eq_true kb
    go_wp2_with fail;go_ret
    have h8 : E = 8:=by rw [<- hE.out];exact if_pos (Or.inr (Or.inr (Or.inr (Or.inl (decide_eq_true (by simp only;omega))))))
    exact ⟨by rw [h8];rfl,hBW.out⟩
   have ub : decide (8796093022208 < p2) = false:=decide_eq_false kb
   by_cases kc : v2 < -1099511627776
   ·have uc : decide (v2 < -1099511627776) = true:=decide_eq_true kc
    go_wp2_with fail;go_ret
    have h8 : E = 8:=by rw [<- hE.out];exact if_pos (Or.inr (Or.inr (Or.inr (Or.inr (decide_eq_true (by simp only;omega))))))
    exact ⟨by rw [h8];rfl,hBW.out⟩
   have uc : decide (v2 < -1099511627776) = false:=decide_eq_false kc
   by_cases kd : 1099511627776 < v2
   ·have ud : decide (1099511627776 < v2) = true:=decide_eq_true kd
    go_wp2_with fail;go_ret
    have h8 : E = 8:=by rw [<- hE.out];exact if_pos (Or.inr (Or.inr (Or.inr (Or.inr (decide_eq_true (by simp only;omega))))))
    exact ⟨by rw [h8];rfl,hBW.out⟩
   have ud : decide (1099511627776 < v2) = false:=decide_eq_false kd;have hin2 : Hid (Zia ⟨t,p0,p1,p2,v0,v1,v2⟩ 3):=Za ⟨fun h=>hin.out.1 (by omega),fun h=>hin.out.2.1 (by omega),fun _=>by simp only;omega⟩;go_wp2_with fail
   go_roundg 0
   case measure=>omega
   case rel=>exact ⟨rfl,3,by omega,by go_num,hin2⟩
  ·go_wp2_with fail
   go_ret
   have h8 : E = 0:=by
    rw [<- hE.out];have q0:=hin.out.1 (by omega);have q1:=hin.out.2.1 (by omega);have q2:=hin.out.2.2 (by omega);simp only at q0 q1 q2
    exact if_neg (by
     rintro (h | h | h | h | h)
     ·simp only at h;omega
     ·simp only at h;omega
     ·exact h3.out h
     ·have h:=of_decide_eq_true h;simp only at h;omega
     ·have h:=of_decide_eq_true h;simp only at h;omega)
   exact ⟨by rw [h8];rfl,hBW.out⟩
def St.cells (s : St) : Array Value:=#[.int .i64 s.t,.int .i64 s.p0,.int .i64 s.p1,.int .i64 s.p2,.int .i64 s.v0,.int .i64 s.v1,.int .i64 s.v2]
def St.num (s : St) : Nat -> Int
 | 0=>s.p0
 | 1=>s.p1
 | 2=>s.p2
 | 3=>s.v0
 | 4=>s.v1
 | _=>s.v2
def mvS (s : St) (ns : Nat -> Int) (i : Nat) : St:=
 ⟨s.t,if 0 < i then wrap64 (s.p0 + ns 0) else s.p0,if 1 < i then wrap64 (s.p1 + ns 1) else s.p1,if 2 < i then wrap64 (s.p2 + ns 2) else s.p2,if 3 < i then wrap64 (s.v0 + ns 3) else s.v0,if 4 < i then wrap64 (s.v1 + ns 4) else s.v1,if 5 < i then wrap64 (s.v2 + ns 5) else s.v2⟩
theorem Zed (s : St) (ns : Nat -> Int) {i : Nat} (h : i < 6) : (mvS s ns i).cells.setIfInBounds (i + 1) (.int .i64 (wrap64 (s.num i + ns i))) = (mvS s ns (i + 1)).cells:=by
 rcases (show i = 0 \/ i = 1 \/ i = 2 \/ i = 3 \/ i = 4 \/ i = 5 by omega) with rfl | rfl | rfl | rfl | rfl | rfl <;> rfl
theorem Zep (s : St) (ns : Nat -> Int) {i : Nat} (h : i < 6) : (mvS s ns i).cells[i + 1]? = some (.int .i64 (s.num i)):=by
 rcases (show i = 0 \/ i = 1 \/ i = 2 \/ i = 3 \/ i = 4 \/ i = 5 by omega) with rfl | rfl | rfl | rfl | rfl | rfl <;> rfl
theorem St.noLimb (s : St) : NoLimb s.cells:=fun i x=>by
 unfold St.cells
 rcases i with _ | _ | _ | _ | _ | _ | _ | i <;> simp
theorem Zll {t : TypeId} {B : Nat} {w0 w : World} {g : Nat} {s0 : St} (s : St) (hB : Below B w0 w) (hs : B <= g) (hb : Blk w g t s0.cells) :
    ∃ W,((((((w.setCell ⟨g,0,none⟩ (.int .i64 s.t)).setCell ⟨g,1,none⟩ (.int .i64 s.p0)).setCell ⟨g,2,none⟩ (.int .i64 s.p1)).setCell ⟨g,3,none⟩ (.int .i64 s.p2)).setCell ⟨g,4,none⟩ (.int .i64 s.v0)).setCell ⟨g,5,none⟩ (.int .i64 s.v1)).setCell ⟨g,6,none⟩ (.int .i64 s.v2) = W /\ Below B w0 W /\ Blk W g t s.cells:=by
 refine ⟨_,rfl,?_,?_⟩
 ·exact ((((((hB.setCell (p:=⟨g,0,none⟩) hs _).setCell (p:=⟨g,1,none⟩) hs _).setCell (p:=⟨g,2,none⟩) hs _).setCell (p:=⟨g,3,none⟩) hs _).setCell (p:=⟨g,4,none⟩) hs _).setCell (p:=⟨g,5,none⟩) hs _).setCell (p:=⟨g,6,none⟩) hs _
 ·have h0 : Blk w g t #[.int .i64 s0.t,.int .i64 s0.p0,.int .i64 s0.p1,.int .i64 s0.p2,.int .i64 s0.v0,.int .i64 s0.v1,.int .i64 s0.v2]:=hb
  have h1 : Blk _ g t #[.int .i64 s.t,.int .i64 s0.p0,.int .i64 s0.p1,.int .i64 s0.p2,.int .i64 s0.v0,.int .i64 s0.v1,.int .i64 s0.v2]:=h0.set_ 0 (.int .i64 s.t);have h2 : Blk _ g t #[.int .i64 s.t,.int .i64 s.p0,.int .i64 s0.p1,.int .i64 s0.p2,.int .i64 s0.v0,.int .i64 s0.v1,.int .i64 s0.v2]:=h1.set_ 1 (.int .i64 s.p0);have h3 : Blk _ g t #[.int .i64 s.t,.int .i64 s.p0,.int .i64 s.p1,.int .i64 s0.p2,.int .i64 s0.v0,.int .i64 s0.v1,.int .i64 s0.v2]:=h2.set_ 2 (.int .i64 s.p1);have h4 : Blk _ g t #[.int .i64 s.t,.int .i64 s.p0,.int .i64 s.p1,.int .i64 s.p2,.int .i64 s0.v0,.int .i64 s0.v1,.int .i64 s0.v2]:=h3.set_ 3 (.int .i64 s.p2);have h5 : Blk _ g t #[.int .i64 s.t,.int .i64 s.p0,.int .i64 s.p1,.int .i64 s.p2,.int .i64 s.v0,.int .i64 s0.v1,.int .i64 s0.v2]:=h4.set_ 4 (.int .i64 s.v0);have h6 : Blk _ g t #[.int .i64 s.t,.int .i64 s.p0,.int .i64 s.p1,.int .i64 s.p2,.int .i64 s.v0,.int .i64 s.v1,.int .i64 s0.v2]:=h5.set_ 5 (.int .i64 s.v1);have h7 : Blk _ g t #[.int .i64 s.t,.int .i64 s.p0,.int .i64 s.p1,.int .i64 s.p2,.int .i64 s.v0,.int .i64 s.v1,.int .i64 s.v2]:=h6.set_ 6 (.int .i64 s.v2);exact h7
theorem Zer {t : TypeId} {B : Nat} {w0 w : World} {g k : Nat} {cs : Array Value} (v : Value) (hB : Below B w0 w) (hs : B <= g) (hb : Blk w g t cs) (hl : NoLimb cs) :
    ∃ W,w.setCell ⟨g,k,none⟩ v = W /\ Below B w0 W /\ Blk W g t (cs.setIfInBounds k v) /\ Zp5 w W g:=
 ⟨_,rfl,hB.setCell (p:=⟨g,k,none⟩) hs _,hb.set_ k v,fun na A' n' c' z hW=>⟨hW.1,hW.2.1,hW.2.2.set_box hb hl _ _⟩,fun g' t' cs' hg h=>h.far hg _,by simp⟩
theorem Blk.frozen7 {t : TypeId} {w : World} {g : Nat} {s : St} (hb : Blk w g t s.cells) : w.frozen? ⟨g,0,none⟩ = false /\ w.frozen? ⟨g,1,none⟩ = false /\ w.frozen? ⟨g,2,none⟩ = false /\ w.frozen? ⟨g,3,none⟩ = false /\ w.frozen? ⟨g,4,none⟩ = false /\ w.frozen? ⟨g,5,none⟩ = false /\ w.frozen? ⟨g,6,none⟩ = false:=
 ⟨hb.frozen 0,hb.frozen 1,hb.frozen 2,hb.frozen 3,hb.frozen 4,hb.frozen 5,hb.frozen 6⟩
def Zb9 (dir : List Rat) (d : Int) (i : Nat) : Int:=Zgh ((dir[i]?.getD 0) * (d : Rat))
def Zby (z : Int) : Prop:=-1152921504606846976 <= z /\ z <= 1152921504606846976
def movB (s : St) (dir : List Rat) (d : Int) : Prop:=(∀ i,i < 6 -> Zby (Zb9 dir d i)) /\ stE (mvS s (Zb9 dir d) 6) = 0
open Classical in
noncomputable def movE (s : St) (dir : List Rat) (d : Int) : Int:=if movB s dir d then 0 else 24
def St.zero : St:=⟨0,0,0,0,0,0,0⟩
open Classical in
noncomputable def movV (s : St) (dir : List Rat) (d : Int) : St:=if movB s dir d then mvS s (Zb9 dir d) 6 else St.zero
theorem Znm {s : St} {dir : List Rat} {d : Int} {i : Nat} (hi : i < 6) (h : ¬ Zby (Zb9 dir d i)) : movE s dir d = 24 /\ movV s dir d = St.zero:=by
 have hb : ¬ movB s dir d:=fun hb=>h (hb.1 i hi)
 exact ⟨if_neg hb,if_neg hb⟩
theorem Zmp {s : St} {dir : List Rat} {d : Int} (h : stE (mvS s (Zb9 dir d) 6) ≠ 0) : movE s dir d = 24 /\ movV s dir d = St.zero:=by
 have hb : ¬ movB s dir d:=fun hb=>h hb.2
 exact ⟨if_neg hb,if_neg hb⟩
theorem Zqc {s : St} {dir : List Rat} {d : Int} (h : ∀ i,i < 6 -> Zby (Zb9 dir d i)) (h2 : stE (mvS s (Zb9 dir d) 6) = 0) : movE s dir d = 0 /\ movV s dir d = mvS s (Zb9 dir d) 6:=
 ⟨if_pos ⟨h,h2⟩,if_pos ⟨h,h2⟩⟩
theorem Zqt (i g : Nat) (hi : i < 6) (w : World) :
    Calls Tryz.prog 200 #[.int .i64 i,.pointer (some ⟨g,0,none⟩)] w fun e w'=>e = .returned (.pointer (some ⟨g,i + 1,none⟩)) /\ w' = w:=by
 rcases (show i = 0 \/ i = 1 \/ i = 2 \/ i = 3 \/ i = 4 \/ i = 5 by omega) with rfl | rfl | rfl | rfl | rfl | rfl
 all_goals
  go_enter Tryz.func200,Tryz.ntmps200;go_wp2_with fail;go_ret;exact ⟨rfl,rfl⟩
theorem Zdg {t : TypeId} {B : Nat} {w0 w : World} {g : Nat} {s0 : St} (hB : Below B w0 w) (hs : B <= g) (hb : Blk w g t s0.cells) : ∃ W,(((((((w.setCell ⟨g,0,none⟩ (.int .i64 0)).setCell ⟨g,1,none⟩ (.int .i64 0)).setCell ⟨g,2,none⟩ (.int .i64 0)).setCell ⟨g,3,none⟩ (.int .i64 0)).setCell ⟨g,4,none⟩ (.int .i64 0)).setCell ⟨g,5,none⟩ (.int .i64 0)).setCell ⟨g,6,none⟩ (.int .i64 0)) = W /\ Below B w0 W /\ Blk W g t St.zero.cells:=Zll St.zero hB hs hb
def MovPost (s : St) (dir : List Rat) (d : Int) (w : World) (e : Ending) (w' : World) : Prop:=
 e = .returned (.tuple #[.agg (movV s dir d).cells,.int .i64 (movE s dir d)]) /\ Below w.heap.size w w'
def Zjo (dir : List Rat) (d : Int) : Prop:=Sm (d : Rat) /\ ∀ i : Nat,Sm (dir[i]?.getD 0) /\ Sm (dir[i]?.getD 0 * (d : Rat))
theorem Zru (z : Int) : Rat.divInt z 1 = (z : Rat):=by
 rw [Rat.divInt_eq_div];grind
theorem move_ok (s : St) (A : Option Addr) (c : Nat) (dir : List Rat) (d : Int) (w : World) (hD : FL w A 6 c dir) (hS : Zjo dir d) (hd1 : -9223372036854775808 <= d) (hd2 : d <= 9223372036854775807) :
    Calls Tryz.prog 141 #[.agg #[.int .i64 s.t,.int .i64 s.p0,.int .i64 s.p1,.int .i64 s.p2,.int .i64 s.v0,.int .i64 s.v1,.int .i64 s.v2],.slice A 6 c,.int .i64 d] w (MovPost s dir d w):=by
 have hcap:=hD.cap;unfold maxLen at hcap;obtain ⟨W0,hW0,hB0,⟨q0,q1⟩,s0⟩:=Zdm w 46 #[.int .i64 s.t,.int .i64 s.p0,.int .i64 s.p1,.int .i64 s.p2,.int .i64 s.v0,.int .i64 s.v1,.int .i64 s.v2] 46 #[.int .i64 0,.int .i64 0,.int .i64 0,.int .i64 0,.int .i64 0,.int .i64 0,.int .i64 0]
 have hmf : ∀ (fn : Fn) (first cap : Array Value) (w : World),(Instr.makeFunc fn first cap).run Tryz.prog w = .ok (.func fn first cap) w:=fun _ _ _ _=>rfl
 have q0' : Blk W0 w.heap.size 46 s.cells:=q0;have q1' : Blk W0 (w.heap.size + 1) 46 St.zero.cells:=q1;have hDh:=Za hD;have hOf:=Za (fun W=>Ztt d 1 W hd1 hd2 (by omega) (by omega));replace hS:=Za hS;clear q0 q1 hD;have hq:=Za (And.intro q0' q1');clear q0' q1';replace hW0:=Za hW0;replace hB0:=Za hB0;go_enter Tryz.func141,Tryz.ntmps141;have hW0':=hW0.out;go_wp2_with fail;clear hW0 hW0';refine (hOf.out W0).mono ?_;rintro e w1 ⟨hb1,yn,yA,yk,yc,ym,yB,yj,yd,rfl,hY⟩;rw [Zru] at hY;have s1 : W0.heap.size <= w1.heap.size:=hb1.size;obtain ⟨q0,q1⟩:=hq.out;replace q0:=(Zb hb1 q0).alloc (.cells #[.bool yn,.slice yA yk yc,.bool ym,.slice yB yj yd] 29);replace q1:=(Zb hb1 q1).alloc (.cells #[.bool yn,.slice yA yk yc,.bool ym,.slice yB yj yd] 29);have q9 : Blk (w1.alloc (.cells #[.bool yn,.slice yA yk yc,.bool ym,.slice yB yj yd] 29)) w1.heap.size 29 #[.bool yn,.slice yA yk yc,.bool ym,.slice yB yj yd]:=Blk.new _ _ _;have hB1:=(hB0.out.trans (hb1.mono hB0.out.size)).alloc (by have:=hB0.out.size;omega) (.cells #[.bool yn,.slice yA yk yc,.bool ym,.slice yB yj yd] 29);have hY1:=hY.alloc (.cells #[.bool yn,.slice yA yk yc,.bool ym,.slice yB yj yd] 29);obtain ⟨V,hV⟩ : ∃ V,w1.alloc (.cells #[.bool yn,.slice yA yk yc,.bool ym,.slice yB yj yd] 29) = V:=⟨_,rfl⟩
 have sV : V.heap.size = w1.heap.size + 1:=by rw [<- hV];simp
 rw [hV] at q0 q1 q9 hB1 hY1;obtain ⟨g9,hg9⟩ : ∃ g,w1.heap.size = g:=⟨_,rfl⟩;rw [hg9] at q9;have hs0:=hB0.out.size
 have hg9' : w.heap.size + 1 + 1 <= g9:=by omega
 clear hq hB0 hb1 hY hOf;have hq:=Za (And.intro q0 (And.intro q1 q9));replace hY1:=Za hY1;replace hB1:=Za hB1;replace hV:=Za hV;clear q0 q1 q9;go_wp2_with fail;rw [hV.out];clear hV hg9
 go_loopg [25] 6 (fun k iv wr=>∃ i : Nat,i + k = 6 /\ iv = .int .i64 i /\ Hid (Below w.heap.size w wr) /\ Hid (∀ j,j < i -> Zby (Zb9 dir d j)) /\ Hid (Blk wr w.heap.size 46 (mvS s (Zb9 dir d) i).cells /\ Blk wr (w.heap.size + 1) 46 St.zero.cells /\ Blk wr g9 29 #[.bool yn,.slice yA yk yc,.bool ym,.slice yB yj yd]) /\ Hid (Fr wr yn yA yk yc ym yB yj yd (d : Rat)))
 case atStart=>exact ⟨0,by omega,rfl,hB1,Za (fun j hj=>by omega),hq,hY1⟩
 case round =>
  clear hq hY1 hB1;obtain ⟨wi,rfl⟩ : ∃ x : World,x = wr:=⟨_,rfl⟩;obtain ⟨i,hik,rfl,hBi,hN,hq,hY⟩:=hrel;have sBi:=hBi.out.size
  cases gk with
  | zero =>
   obtain rfl : i = 6:=by omega
   have t5 : decide (((6 : Nat) : Int) < ((6 : Nat) : Int)) = false:=by decide
   obtain ⟨q0,q1,q9⟩:=hq.out;obtain ⟨S6,hS6⟩ : ∃ S,mvS s (Zb9 dir d) 6 = S:=⟨_,rfl⟩;rw [hS6] at q0;obtain ⟨c0,c1,c2,c3,c4,c5,c6⟩:=Zaf (show Blk wi w.heap.size 46 #[.int .i64 S6.t,.int .i64 S6.p0,.int .i64 S6.p1,.int .i64 S6.p2,.int .i64 S6.v0,.int .i64 S6.v1,.int .i64 S6.v2] from q0);clear hq hY;have hq:=Za (And.intro q0 q1);clear q0 q1 q9;go_wp2_with fail;refine (Zkl S6 wi).mono ?_;rintro e w5 ⟨rfl,hb5⟩;obtain ⟨q0,q1⟩:=hq.out;replace q0:=Zb hb5 q0;replace q1:=Zb hb5 q1;have hB5:=hBi.out.trans (hb5.mono hBi.out.size);clear c0 c1 c2 c3 c4 c5 c6 hq hb5;obtain ⟨E,hE⟩ : ∃ E,stE S6 = E:=⟨_,rfl⟩;rw [hE];obtain ⟨f0,f1,f2,f3,f4,f5,f6⟩:=q1.frozen7;obtain ⟨x0,x1,x2,x3,x4,x5,x6⟩:=Zaf (show Blk w5 (w.heap.size + 1) 46 #[.int .i64 0,.int .i64 0,.int .i64 0,.int .i64 0,.int .i64 0,.int .i64 0,.int .i64 0] from q1)
   by_cases h0 : E = 0
   case neg =>
    have t0 : (E == 0) = false:=by simpa using h0
    have t0' : decide (E = 0) = false:=by simpa using h0
    have t0'' : (E != 0) = true:=by rw [bne,t0];rfl
    have hM:=Za (Zmp (s:=s) (dir:=dir) (d:=d) (by rw [hS6,hE];exact h0));have hqq:=Za (And.intro hB5 q1);clear hS6 hE hB5 q1 q0;replace h0:=Za h0;go_wp2_with fail;obtain ⟨W6,hW6,hB6,q6⟩:=Zdg hqq.out.1 (by omega) hqq.out.2;rw [hW6];obtain ⟨y0,y1,y2,y3,y4,y5,y6⟩:=Zaf (show Blk W6 (w.heap.size + 1) 46 #[.int .i64 0,.int .i64 0,.int .i64 0,.int .i64 0,.int .i64 0,.int .i64 0,.int .i64 0] from q6);refine bodyPost_ret (v:=.tuple #[.agg #[.int .i64 0,.int .i64 0,.int .i64 0,.int .i64 0,.int .i64 0,.int .i64 0,.int .i64 0],.int .i64 24]) (by simp [results,Tryz.results141,go_sem,y0,y1,y2,y3,y4,y5,y6]) rfl ?_;exact ⟨by rw [hM.out.1,hM.out.2];rfl,hB6⟩
   subst h0;have hM:=Za (Zqc (s:=s) (dir:=dir) (d:=d) (fun j hj=>hN.out j hj) (by rw [hS6,hE]));rw [hS6] at hM;obtain ⟨c0,c1,c2,c3,c4,c5,c6⟩:=Zaf (show Blk w5 w.heap.size 46 #[.int .i64 S6.t,.int .i64 S6.p0,.int .i64 S6.p1,.int .i64 S6.p2,.int .i64 S6.v0,.int .i64 S6.v1,.int .i64 S6.v2] from q0);have hqq:=Za (And.intro hB5 q1);clear hS6 hE hB5 q1 q0;go_wp2_with fail;obtain ⟨W6,hW6,hB6,q6⟩:=Zll S6 hqq.out.1 (by omega) hqq.out.2;rw [hW6];obtain ⟨y0,y1,y2,y3,y4,y5,y6⟩:=Zaf (show Blk W6 (w.heap.size + 1) 46 #[.int .i64 S6.t,.int .i64 S6.p0,.int .i64 S6.p1,.int .i64 S6.p2,.int .i64 S6.v0,.int .i64 S6.v1,.int .i64 S6.v2] from q6);refine bodyPost_ret (v:=.tuple #[.agg #[.int .i64 S6.t,.int .i64 S6.p0,.int .i64 S6.p1,.int .i64 S6.p2,.int .i64 S6.v0,.int .i64 S6.v1,.int .i64 S6.v2],.int .i64 0]) (by simp [results,Tryz.results141,go_sem,y0,y1,y2,y3,y4,y5,y6]) rfl ?_;exact ⟨by rw [hM.out.1,hM.out.2];rfl,hB6⟩
  | succ t' =>
   obtain rfl : t' = 6 - (i + 1):=by omega
   have hi6 : i < 6:=by omega
   have t5 : decide ((i : Int) < 6) = true:=decide_eq_true (by omega);have t5' : decide ((i : Int) < ((6 : Nat) : Int)) = true:=decide_eq_true (by omega)
   have bi : (i : Int) < 6:=by omega
   have bi' : (i : Int) < ((6 : Nat) : Int):=by omega
   obtain ⟨g2,o2,fn,fA,fk,fc,fm,fB,fj,fd,rfl,⟨x0,x1,x2,x3⟩,hX⟩:=(hDh.out.below hBi.out).at_ hi6;obtain ⟨q0,q1,q9⟩:=hq.out;have l9:=q9.lt;replace q0:=q0.alloc (.cells #[.bool fn,.slice fA fk fc,.bool fm,.slice fB fj fd] 29);replace q1:=q1.alloc (.cells #[.bool fn,.slice fA fk fc,.bool fm,.slice fB fj fd] 29);replace q9:=q9.alloc (.cells #[.bool fn,.slice fA fk fc,.bool fm,.slice fB fj fd] 29);have q12 : Blk (wi.alloc (.cells #[.bool fn,.slice fA fk fc,.bool fm,.slice fB fj fd] 29)) wi.heap.size 29 #[.bool fn,.slice fA fk fc,.bool fm,.slice fB fj fd]:=Blk.new _ _ _;have hB2:=hBi.out.alloc sBi (.cells #[.bool fn,.slice fA fk fc,.bool fm,.slice fB fj fd] 29);have hX2:=hX.alloc (.cells #[.bool fn,.slice fA fk fc,.bool fm,.slice fB fj fd] 29);have hY2:=hY.out.alloc (.cells #[.bool fn,.slice fA fk fc,.bool fm,.slice fB fj fd] 29);obtain ⟨y0,y1,y2,y3,-⟩:=q9.four;obtain ⟨V2,hV2⟩ : ∃ V,wi.alloc (.cells #[.bool fn,.slice fA fk fc,.bool fm,.slice fB fj fd] 29) = V:=⟨_,rfl⟩
   have sV2 : V2.heap.size = wi.heap.size + 1:=by rw [<- hV2];simp
   rw [hV2] at q0 q1 q9 q12 hB2 hX2 hY2;clear hq hX hY;have hq:=Za (And.intro q0 (And.intro q1 (And.intro q9 q12)));clear q0 q1 q9 q12;replace hX2:=Za hX2;replace hY2:=Za hY2;replace hB2:=Za hB2;replace hV2:=Za hV2;go_wp2_with fail;rw [hV2.out];refine (Zp0 fn fm yn ym fA fB yA yB fk fc fj fd yk yc yj yd _ _ V2 hX2.out hY2.out (hS.out.2 i).1 hS.out.1).mono ?_;rintro e w5 ⟨hb5,nx,Ax,kx,cx,ny,Ay,ky,cy,rfl,hF⟩;obtain ⟨q0,q1,q9,q12⟩:=hq.out;have s5:=hb5.size;replace q0:=Zb hb5 q0;replace q1:=Zb hb5 q1;replace q9:=Zb hb5 q9;replace q12:=Zb hb5 q12;have hB5:=hB2.out.trans (hb5.mono hB2.out.size);have hY5:=Za (hY2.out.below hb5);have sB2:=hB2.out.size;clear hq hX2 hY2 hB2 hV2 hb5 y0 y1 y2 y3 x0 x1 x2 x3;obtain ⟨z0,z1,z2,z3,f0,f1,f2,f3⟩:=q12.four;have hq:=Za (And.intro q0 (And.intro q1 (And.intro q9 q12)));clear q0 q1 q9 q12;replace hF:=Za hF;replace hB5:=Za hB5;go_wp2_with fail;obtain ⟨q0,q1,q9,q12⟩:=hq.out;obtain ⟨W6,hW6,hB6,q12',kW,kB,s6⟩:=Zaa nx Ax kx cx ny Ay ky cy hB5.out (by omega) q12;rw [hW6];replace q0:=kB _ _ _ (by omega) q0;replace q1:=kB _ _ _ (by omega) q1;replace q9:=kB _ _ _ (by omega) q9;have hY6 : Hid (Fr W6 yn yA yk yc ym yB yj yd (d : Rat)):=Za ⟨kW _ _ _ _ _ hY5.out.1,kW _ _ _ _ _ hY5.out.2⟩;have hF6 : Fr W6 nx Ax kx cx ny Ay ky cy (dir[i]?.getD 0 * (d : Rat)):=⟨kW _ _ _ _ _ hF.out.1,kW _ _ _ _ _ hF.out.2⟩;clear hq hW6 hB5 q12 q12' kW kB z0 z1 z2 z3 f0 f1 f2 f3 hF hY5;refine (Zqr nx ny Ax Ay kx cx ky cy _ W6 hF6 (hS.out.2 i).2).mono ?_
   rintro e w7 ⟨hb7,nz,Az,kz,cz,rfl,hZ⟩;have s7:=hb7.size;replace q0:=(Zb hb7 q0).alloc (.cells #[.bool nz,.slice Az kz cz] 27);replace q1:=(Zb hb7 q1).alloc (.cells #[.bool nz,.slice Az kz cz] 27);replace q9:=(Zb hb7 q9).alloc (.cells #[.bool nz,.slice Az kz cz] 27);have hY7:=(hY6.out.below hb7).alloc (.cells #[.bool nz,.slice Az kz cz] 27);have hB7:=(hB6.trans (hb7.mono hB6.size)).alloc (by have:=hB6.size;omega) (.cells #[.bool nz,.slice Az kz cz] 27);have hZ7:=hZ.alloc (.cells #[.bool nz,.slice Az kz cz] 27);have sB6:=hB6.size;obtain ⟨V8,hV8⟩ : ∃ V,w7.alloc (.cells #[.bool nz,.slice Az kz cz] 27) = V:=⟨_,rfl⟩
   have sV8 : V8.heap.size = w7.heap.size + 1:=by rw [<- hV8];simp
   rw [hV8] at q0 q1 q9 hY7 hB7 hZ7;obtain ⟨z,hz⟩ : ∃ z,Zgh (dir[i]?.getD 0 * (d : Rat)) = z:=⟨_,rfl⟩;rw [hz] at hZ7;have hzw : Zb9 dir d i = z:=hz;clear hF6 hB6 hb7 hZ hY6 hz;have hq:=Za (And.intro q0 (And.intro q1 q9));clear q0 q1 q9;replace hY7:=Za hY7;replace hB7:=Za hB7;replace hZ7:=Za hZ7;replace hV8:=Za hV8;replace hzw:=Za hzw;go_wp2_with fail;rw [hV8.out];refine (Zpz nz Az kz cz z V8 hZ7.out).mono ?_;rintro e w9 ⟨rfl,hb9⟩;obtain ⟨q0,q1,q9⟩:=hq.out;have s9:=hb9.size;replace q0:=Zb hb9 q0;replace q1:=Zb hb9 q1;replace q9:=Zb hb9 q9;replace hY7:=Za (hY7.out.below hb9);have hB9:=hB7.out.trans (hb9.mono hB7.out.size);clear hq hV8 hb9 hZ7 hB7
   by_cases hn : Zby z
   case neg =>
    have hM:=Za (Znm (s:=s) (dir:=dir) (d:=d) hi6 (by rw [hzw.out];exact hn));obtain ⟨f0,f1,f2,f3,f4,f5,f6⟩:=q1.frozen7;obtain ⟨x0,x1,x2,x3,x4,x5,x6⟩:=Zaf (show Blk w9 (w.heap.size + 1) 46 #[.int .i64 0,.int .i64 0,.int .i64 0,.int .i64 0,.int .i64 0,.int .i64 0,.int .i64 0] from q1);have hqq:=Za (And.intro hB9 q1);clear hB9 q1 q0 q9 hY7 hzw hN
    by_cases hfit : -9223372036854775808 <= z /\ z < 9223372036854775808
    case neg =>
     rw [Zce hfit,Zcf hfit];clear hfit hn;go_wp2_with fail;obtain ⟨W6,hW6,hB6,q6⟩:=Zdg hqq.out.1 (by omega) hqq.out.2;rw [hW6];obtain ⟨y0,y1,y2,y3,y4,y5,y6⟩:=Zaf (show Blk W6 (w.heap.size + 1) 46 #[.int .i64 0,.int .i64 0,.int .i64 0,.int .i64 0,.int .i64 0,.int .i64 0,.int .i64 0] from q6);refine bodyPost_ret (v:=.tuple #[.agg #[.int .i64 0,.int .i64 0,.int .i64 0,.int .i64 0,.int .i64 0,.int .i64 0,.int .i64 0],.int .i64 24]) (by simp [results,Tryz.results141,go_sem,y0,y1,y2,y3,y4,y5,y6]) rfl ?_;exact ⟨by rw [hM.out.1,hM.out.2];rfl,hB6⟩
    rw [Zcx hfit,Zcw hfit]
    by_cases hgt : 1152921504606846976 < z
    case pos =>
     have t6 : decide (1152921504606846976 < z) = true:=decide_eq_true hgt;clear hfit hn hgt;go_wp2_with fail;obtain ⟨W6,hW6,hB6,q6⟩:=Zdg hqq.out.1 (by omega) hqq.out.2;rw [hW6];obtain ⟨y0,y1,y2,y3,y4,y5,y6⟩:=Zaf (show Blk W6 (w.heap.size + 1) 46 #[.int .i64 0,.int .i64 0,.int .i64 0,.int .i64 0,.int .i64 0,.int .i64 0,.int .i64 0] from q6);refine bodyPost_ret (v:=.tuple #[.agg #[.int .i64 0,.int .i64 0,.int .i64 0,.int .i64 0,.int .i64 0,.int .i64 0,.int .i64 0],.int .i64 24]) (by simp [results,Tryz.results141,go_sem,y0,y1,y2,y3,y4,y5,y6]) rfl ?_;exact ⟨by rw [hM.out.1,hM.out.2];rfl,hB6⟩
    case neg =>
     have t6 : decide (1152921504606846976 < z) = false:=decide_eq_false hgt;have t7 : decide (z < -1152921504606846976) = true:=decide_eq_true (by unfold Zby at hn;omega);clear hfit hn hgt;go_wp2_with fail;obtain ⟨W6,hW6,hB6,q6⟩:=Zdg hqq.out.1 (by omega) hqq.out.2;rw [hW6];obtain ⟨y0,y1,y2,y3,y4,y5,y6⟩:=Zaf (show Blk W6 (w.heap.size + 1) 46 #[.int .i64 0,.int .i64 0,.int .i64 0,.int .i64 0,.int .i64 0,.int .i64 0,.int .i64 0] from q6);refine bodyPost_ret (v:=.tuple #[.agg #[.int .i64 0,.int .i64 0,.int .i64 0,.int .i64 0,.int .i64 0,.int .i64 0,.int .i64 0],.int .i64 24]) (by simp [results,Tryz.results141,go_sem,y0,y1,y2,y3,y4,y5,y6]) rfl ?_;exact ⟨by rw [hM.out.1,hM.out.2];rfl,hB6⟩
   have hfit : -9223372036854775808 <= z /\ z < 9223372036854775808:=by unfold Zby at hn;omega
   rw [Zcx hfit,Zcw hfit];have t6 : decide (1152921504606846976 < z) = false:=decide_eq_false (by unfold Zby at hn;omega);have t7 : decide (z < -1152921504606846976) = false:=decide_eq_false (by unfold Zby at hn;omega)
   have hN2 : Hid (∀ j,j < i + 1 -> Zby (Zb9 dir d j)):=Za (fun j hj=>by
    by_cases e : j = i
    ·subst e;rw [hzw.out];exact hn
    ·exact hN.out j (by omega))
   replace hn:=Za hn;have hq:=Za (And.intro q0 (And.intro q1 q9))
   have hcx : w9.cell? ⟨w.heap.size,i + 1,none⟩ = some (.int .i64 (s.num i)):=by
    have:=q0.cell (i + 1);rw [Zep s _ hi6] at this;exact this
   have hfx:=q0.frozen (i + 1);obtain ⟨xn,hxn⟩ : ∃ x,s.num i = x:=⟨_,rfl⟩;rw [hxn] at hcx;clear q0 q1 q9 hfit;replace hB9:=Za hB9;replace hxn:=Za hxn;have hnum:=Za (fun W=>Zqt i w.heap.size hi6 W);go_wp2_with fail;refine (hnum.out _).mono ?_;rintro e w9 ⟨rfl,rfl⟩;go_wp2_with fail;obtain ⟨q0,q1,q9⟩:=hq.out;obtain ⟨W10,hW10,hB10,q0',kW,kB,s10⟩:=Zer (.int .i64 (wrap64 (xn + z))) hB9.out (Nat.le_refl _) q0 (St.noLimb _);rw [hW10];replace q1:=kB _ _ _ (by omega) q1;replace q9:=kB _ _ _ (by omega) q9;have hY10 : Hid (Fr W10 yn yA yk yc ym yB yj yd (d : Rat)):=Za ⟨kW _ _ _ _ _ hY7.out.1,kW _ _ _ _ _ hY7.out.2⟩
   have q0'' : Blk W10 w.heap.size 46 (mvS s (Zb9 dir d) (i + 1)).cells:=by
    have h:=Zed s (Zb9 dir d) hi6;rw [hzw.out,hxn.out] at h;rw [<- h];exact q0'
   have hfin:=Za (And.intro q0'' (And.intro q1 q9));replace hB10:=Za hB10;clear hq hW10 hB9 q0 q0' q0'' q1 q9 kW kB hY7 hcx hfx
   go_roundg (6 - (i + 1))
   case measure=>omega
   case rel=>exact ⟨i + 1,by omega,by go_num,hB10,hN2,hfin,hY10⟩
theorem Zrg (na nb : Bool) (A B : Option Addr) (n c m d : Nat) (x : Rat) (w : World) (hx : Fr w na A n c nb B m d x) (hs : Sm x) :
    Calls Tryz.prog 142 #[.agg #[.bool na,.slice A n c,.bool nb,.slice B m d]] w (NumE w (Zgh x)):=by
 obtain ⟨W0,hW0,hB0,⟨q0,q1⟩,s0⟩:=Zdm w 29 #[.bool na,.slice A n c,.bool nb,.slice B m d] 27 #[.bool false,.slice none 0 0];have hX:=Za (hx.below hB0)
 have hmx : Tryz.prog.follows .mixedOrders = true:=by kernel_rfl
 have hbig2 : pw 1000 + pw 1000 + 2 < pw 4096:=by
  have h1:=Zez (a:=1001) (b:=4096) (by decide);have h2 : pw 1001 = 4294967296 * pw 1000:=Zai 1000;have h3:=Zdt 1000;omega
 have hrr : Hid ((((x.den : Nat) : Int) - Int.fmod x.num x.den).natAbs < pw 4096):=Za (by have h1:=Zqg (x:=x);have h2:=hs.2;omega);have hqq : Hid ((Int.fdiv x.num x.den + 1).natAbs < pw 4096):=Za (by have h1:=Zi0 (x:=x) hs.1;omega);clear hx hs hbig2;replace hW0:=Za hW0;obtain ⟨a0,a1,a2,a3,-⟩:=q0.four;have hq:=Za (And.intro q0 q1);clear q0 q1;go_enter Tryz.func142,Tryz.ntmps142;have hW0':=hW0.out;go_wp2_with fail;clear hW0 hW0';refine (Zgn na nb A B n c m d x W0 hX.out).mono ?_;rintro e w1 ⟨rfl,hb1⟩;have hB1 : Below w.heap.size w w1:=hB0.trans (hb1.mono hB0.size);have s1 : W0.heap.size <= w1.heap.size:=hb1.size;replace hX:=Za (hX.out.below hb1);obtain ⟨q0,q1⟩:=hq.out;replace q0:=Zb hb1 q0;replace q1:=Zb hb1 q1;clear hq hb1 hB0 a0 a1 a2 a3;obtain ⟨a0,a1,a2,a3,-⟩:=q0.four;have hq:=Za (And.intro q0 q1);clear q0 q1;go_wp2_with fail;refine (Zcu na nb A B n c m d x.num x.den w1 hX.out.1 hX.out.2 (by have:=x.den_pos;omega)).mono ?_;rintro e w2 ⟨hb2,nq,Aq,kq,cq,nr,Ar,kr,cr,rfl,hQ,hR⟩;have hB2 : Below w.heap.size w w2:=hB1.trans (hb2.mono hB1.size);have s2 : w1.heap.size <= w2.heap.size:=hb2.size;replace hX:=Za (hX.out.below hb2);obtain ⟨q0,q1⟩:=hq.out;replace q0:=((Zb hb2 q0).alloc (.cells #[.bool nq,.slice Aq kq cq] 27)).alloc (.cells #[.bool nr,.slice Ar kr cr] 27);replace q1:=((Zb hb2 q1).alloc (.cells #[.bool nq,.slice Aq kq cq] 27)).alloc (.cells #[.bool nr,.slice Ar kr cr] 27)
 have q4 : Blk ((w2.alloc (.cells #[.bool nq,.slice Aq kq cq] 27)).alloc (.cells #[.bool nr,.slice Ar kr cr] 27)) w2.heap.size 27 #[.bool nq,.slice Aq kq cq]:=(Blk.new w2 _ _).alloc _
 have q5 : Blk ((w2.alloc (.cells #[.bool nq,.slice Aq kq cq] 27)).alloc (.cells #[.bool nr,.slice Ar kr cr] 27)) (w2.heap.size + 1) 27 #[.bool nr,.slice Ar kr cr]:=by
  have:=Blk.new (w2.alloc (.cells #[.bool nq,.slice Aq kq cq] 27)) 27 #[.bool nr,.slice Ar kr cr];simp only [World.size_alloc] at this;exact this
 have hB3 : Below w.heap.size w ((w2.alloc (.cells #[.bool nq,.slice Aq kq cq] 27)).alloc (.cells #[.bool nr,.slice Ar kr cr] 27)):=(hB2.alloc hB2.size _).alloc (by have:=hB2.size;simp;omega) _;have hX3:=(hX.out.alloc (.cells #[.bool nq,.slice Aq kq cq] 27)).alloc (.cells #[.bool nr,.slice Ar kr cr] 27);have hQ3:=(hQ.alloc (.cells #[.bool nq,.slice Aq kq cq] 27)).alloc (.cells #[.bool nr,.slice Ar kr cr] 27);have hR3:=(hR.alloc (.cells #[.bool nq,.slice Aq kq cq] 27)).alloc (.cells #[.bool nr,.slice Ar kr cr] 27);obtain ⟨V,hV⟩ : ∃ V,((w2.alloc (.cells #[.bool nq,.slice Aq kq cq] 27)).alloc (.cells #[.bool nr,.slice Ar kr cr] 27)) = V:=⟨_,rfl⟩
 have sV : V.heap.size = w2.heap.size + 1 + 1:=by rw [<- hV];simp
 rw [hV] at q0 q1 q4 q5 hB3 hX3 hQ3 hR3;have hs2:=hB2.size;clear hq hb2 hB1 a0 a1 a2 a3 hQ hR hX;have hX:=Za hX3;have hQ:=Za hQ3;have hR:=Za hR3;obtain ⟨-,-,a2,a3,-⟩:=q0.four;obtain ⟨b0,b1,-⟩:=q5.two;have hq:=Za (And.intro q0 (And.intro q1 (And.intro q4 q5)));clear q0 q1 q4 q5 hX3 hQ3 hR3;replace hB3:=Za hB3;have hV':=Za hV;go_wp2_with fail;refine (Zp9 nb nr B Ar m d kr cr x.den _ V hX.out.2 hR.out).mono ?_;rintro e w3 ⟨hb3,np,P,k,q,code,rfl,hRes⟩;have hP:=hRes.small hrr.out;have hcode:=hRes.code0 hrr.out;subst hcode;obtain ⟨q0,q1,q4,q5⟩:=hq.out;have s3:=hb3.size;replace q1:=(Zb hb3 q1).alloc (.cells #[.bool np,.slice P k q] 27);replace q4:=(Zb hb3 q4).alloc (.cells #[.bool np,.slice P k q] 27);replace q5:=(Zb hb3 q5).alloc (.cells #[.bool np,.slice P k q] 27);have q7 : Blk (w3.alloc (.cells #[.bool np,.slice P k q] 27)) w3.heap.size 27 #[.bool np,.slice P k q]:=Blk.new _ _ _;have hB4:=((hB3.out.trans (hb3.mono hB3.out.size)).alloc (by have:=hB3.out.size;omega) (.cells #[.bool np,.slice P k q] 27));have hP4:=hP.alloc (.cells #[.bool np,.slice P k q] 27);have hQ4:=(hQ.out.below hb3).alloc (.cells #[.bool np,.slice P k q] 27);have hR4:=(hR.out.below hb3).alloc (.cells #[.bool np,.slice P k q] 27);obtain ⟨V4,hV4⟩ : ∃ V,w3.alloc (.cells #[.bool np,.slice P k q] 27) = V:=⟨_,rfl⟩
 have s4 : V4.heap.size = w3.heap.size + 1:=by rw [<- hV4];simp
 rw [hV4] at q1 q4 q5 q7 hB4 hP4 hQ4 hR4;have hsw:=hB3.out.size;clear hq hB3 hX hQ hR hb3 hRes hP hV hV' a2 a3 b0 b1 q0 hrr;have hQ:=Za hQ4;obtain ⟨b0,b1,-⟩:=q5.two;obtain ⟨d0,d1,-⟩:=q7.two;have hq:=Za (And.intro q1 q4);clear q1 q4 q5 q7 hQ4;replace hB4:=Za hB4;go_wp2_with fail;refine (Zl1 nr np Ar P kr cr k q _ _ V4 hR4 hP4).mono ?_;rintro e w4 ⟨rfl,hb4⟩;replace hQ:=Za (hQ.out.below hb4);obtain ⟨q1,q4⟩:=hq.out;replace q1:=Zb hb4 q1;replace q4:=Zb hb4 q4;have s5:=hb4.size;have hB5:=Za (hB4.out.trans (hb4.mono hB4.out.size));clear hq hB4 hb4 hR4 hP4 hV4 b0 b1 d0 d1;obtain ⟨c0,c1,-⟩:=q4.two;have hq:=Za (And.intro q1 q4);clear q1 q4;obtain ⟨cc,hcc⟩ : ∃ cc,Zaw (Int.fmod x.num x.den) (((x.den : Nat) : Int) - Int.fmod x.num x.den) = cc:=⟨_,rfl⟩;rw [hcc]
 have hc1 : (x.den : Int) < Int.fmod x.num x.den + Int.fmod x.num x.den -> cc = 1:=fun h=>by rw [<- hcc];unfold Zaw;rw [if_neg (by omega),if_pos (by omega)]
 have hc2 : (x.den : Int) = Int.fmod x.num x.den + Int.fmod x.num x.den -> cc = 0:=fun h=>by rw [<- hcc];unfold Zaw;rw [if_neg (by omega),if_neg (by omega)]
 have hc3 : Int.fmod x.num x.den + Int.fmod x.num x.den < (x.den : Int) -> cc = -1:=fun h=>by rw [<- hcc];unfold Zaw;rw [if_pos (by omega)]
 clear hcc;replace hc1:=Za hc1;replace hc2:=Za hc2;replace hc3:=Za hc3;have hk0:=Za hQ.out.lim.len;have hkm:=hQ.out.2.1
 rcases Int.lt_trichotomy (x.den : Int) (Int.fmod x.num x.den + Int.fmod x.num x.den) with hlt | heq | hgt
 case inl =>
  have hz:=Za (Zfw (x:=x) (.inl hlt));have hc:=hc1.out hlt;subst hc;have hc:=hlt;clear hlt hc1 hc2 hc3
  by_cases hk : kq = 0
  case pos =>
   have bk : decide ((0 : Int) < (kq : Int)) = false:=decide_eq_false (by omega);have bkn : decide (0 < kq) = false:=decide_eq_false (by omega);replace hk:=Za hk;replace hc:=Za hc;go_wp2_with fail;have hSv : Hid (∀ wx,Below w4.heap.size w4 wx -> wx.cell? ⟨w2.heap.size,0,none⟩ = some (.bool nq) /\ wx.cell? ⟨w2.heap.size,1,none⟩ = some (.slice Aq kq cq)):=Za (fun wx hbx=>⟨Zc hbx c0,Zc hbx c1⟩);have hr : Below w4.heap.size w4 w4.drew:=Zh (Below.refl _ _) 1;clear c0 c1;refine wp_heldS [] hmx hSv hr (fun hxs=>?_);refine Zty 1 [0] rfl (by kernel_rfl) (hSv.out _ hr) ?_
   (refine tk1 (v:=?_) rfl (Or.inl ⟨by kernel_rfl,?_⟩) ?_;rotate_left;(· intro W2 hSw;(try dsimp only at hSw);go_simp;try with_reducible rfl);try simp only [Act.put,putL_a,putL_z,putL_s,putG_a,putG_s,putG_z])
   refine tk0 ?_;refine Ze (i:=1) rfl (by kernel_rfl) (fun K hK=>?_);go_simp;refine (Zbn 1 w4.drew (by omega) (by omega)).mono ?_;rintro e w11 ⟨hb11,n1,A1,k1,c1,rfl,hO⟩;have hr11:=hr.trans (hb11.mono hr.size);replace hO:=Za hO;refine hK.out _ _ (fun _=>hSv.out _ hr11) ?_;clear hK K
   try simp only [Act.put,putL_a,putL_z,putL_s]
   refine Ze (i:=2) rfl (by kernel_rfl) (fun K hK=>?_);go_simp;refine (Zh9 nq n1 Aq A1 kq cq k1 c1 _ _ w11 (hQ.out.below hr11) hO.out).mono ?_;rintro e w12 ⟨hb12,np2,P2,k2,q2,code2,rfl,hRes⟩;have hr12:=hr11.trans (hb12.mono hr11.size);have hP:=Za (hRes.small hqq.out);have hcode:=hRes.code0 hqq.out;subst hcode;clear hRes hqq hO;obtain ⟨q1,q4⟩:=hq.out;replace q1:=Zb hr12 q1;replace q4:=Zb hr12 q4;have hB12:=hB5.out.trans (hr12.mono hB5.out.size);obtain ⟨x0,x1,f0,f1⟩:=q1.two;refine hK.out _ _ (fun _=>hSv.out _ hr12) ?_;clear hK K
   try simp only [Act.put,putL_a,putL_z,putL_s]
   refine Zty 2 [3,4] rfl (by kernel_rfl) (hSv.out _ hr12) ?_
   iterate 2 (refine tk1 (v:=?_) rfl (Or.inl ⟨by kernel_rfl,?_⟩) ?_;rotate_left;(· intro W2 hSw;(try dsimp only at hSw);go_simp;try with_reducible rfl);try simp only [Act.put,putL_a,putL_z,putL_s,putG_a,putG_s,putG_z])
   refine tk0 ?_;refine Ze (i:=5) rfl (by kernel_rfl) (fun K hK=>?_);go_simp;obtain ⟨Wa,hWa,hBa,qa,kW,kB,sa⟩:=Z6 np2 P2 k2 q2 hB12 (by omega) q1;rw [hWa];clear hWa x0 x1 f0 f1;have HZ:=kW _ _ _ _ _ hP.out;replace q4:=kB _ _ _ (by have:=hr12.size;omega) q4;obtain ⟨c0,c1,-⟩:=q4.two;refine hK.out _ _ (fun _=>⟨c0,c1⟩) ?_;clear hK K
   try simp only [Act.put,putL_a,putL_z,putL_s]
   refine Zty 1 [6] rfl (by kernel_rfl) ⟨c0,c1⟩ ?_
   (refine tk1 (v:=?_) rfl (Or.inl ⟨by kernel_rfl,?_⟩) ?_;rotate_left;(· intro W2 hSw;(try dsimp only at hSw);go_simp;try with_reducible rfl);try simp only [Act.put,putL_a,putL_z,putL_s,putG_a,putG_s,putG_z])
   refine tk0 ?_;refine Zj (by kernel_rfl) ?_ _;refine OnlyNormal.normal ?_;obtain ⟨y0,y1,-⟩:=qa.two;clear c0 c1;go_wp2_with fail;refine bodyPost_ret (v:=.tuple #[.agg #[.bool np2,.slice P2 k2 q2],.int .i64 0]) (by simp [results,Tryz.results142,go_sem,y0,y1]) rfl ?_;exact ⟨hBa,_,_,_,_,rfl,by rw [hz.out];exact HZ⟩
  case neg =>
   have bk : decide ((0 : Int) < (kq : Int)) = true:=decide_eq_true (by omega)
   have bk' : (0 : Int) < (kq : Int):=by omega
   have bkn : decide (0 < kq) = true:=decide_eq_true (by omega);obtain ⟨gq,oq,rfl,hcell⟩:=hQ.out.lim.at_ (k:=0) (by omega);have hc9 : w4.cell? ⟨gq,oq,none⟩ = some (.int .u32 (((digits (Int.fdiv x.num x.den).natAbs)[0]?.getD 0 : Nat) : Int)):=hcell;clear hcell;obtain ⟨u,hu⟩ : ∃ u,(digits (Int.fdiv x.num x.den).natAbs)[0]?.getD 0 = u:=⟨_,rfl⟩;have hou:=Zg7 (u:=(Int.fdiv x.num x.den).natAbs)
   have hu32 : u < 4294967296:=by rw [<- hu];exact (Zb2 _).get _
   rw [hu] at hc9 hou;replace hou:=Za hou;clear hu;replace hc:=Za hc;go_wp2_with fail;have hSv : Hid (∀ wx,Below w4.heap.size w4 wx -> wx.cell? ⟨w2.heap.size,0,none⟩ = some (.bool nq) /\ wx.cell? ⟨w2.heap.size,1,none⟩ = some (.slice (some ⟨gq,oq,none⟩) kq cq)):=Za (fun wx hbx=>⟨Zc hbx c0,Zc hbx c1⟩);have hr : Below w4.heap.size w4 w4.drew:=Zh (Below.refl _ _) 1;clear c0 c1;refine wp_heldS [] hmx hSv hr (fun hxs=>?_);refine Zty 1 [0] rfl (by kernel_rfl) (hSv.out _ hr) ?_
   (refine tk1 (v:=?_) rfl (Or.inl ⟨by kernel_rfl,?_⟩) ?_;rotate_left;(· intro W2 hSw;(try dsimp only at hSw);go_simp;try with_reducible rfl);try simp only [Act.put,putL_a,putL_z,putL_s,putG_a,putG_s,putG_z])
   refine tk0 ?_;refine Ze (i:=1) rfl (by kernel_rfl) (fun K hK=>?_);go_simp;refine (Zbn 1 w4.drew (by omega) (by omega)).mono ?_;rintro e w11 ⟨hb11,n1,A1,k1,c1,rfl,hO⟩;have hr11:=hr.trans (hb11.mono hr.size);replace hO:=Za hO;refine hK.out _ _ (fun _=>hSv.out _ hr11) ?_;clear hK K
   try simp only [Act.put,putL_a,putL_z,putL_s]
   refine Ze (i:=2) rfl (by kernel_rfl) (fun K hK=>?_);go_simp;refine (Zh9 nq n1 (some ⟨gq,oq,none⟩) A1 kq cq k1 c1 _ _ w11 (hQ.out.below hr11) hO.out).mono ?_;rintro e w12 ⟨hb12,np2,P2,k2,q2,code2,rfl,hRes⟩;have hr12:=hr11.trans (hb12.mono hr11.size);have hP:=Za (hRes.small hqq.out);have hcode:=hRes.code0 hqq.out;subst hcode;clear hRes hqq hO;obtain ⟨q1,q4⟩:=hq.out;replace q1:=Zb hr12 q1;replace q4:=Zb hr12 q4;have hB12:=hB5.out.trans (hr12.mono hB5.out.size);obtain ⟨x0,x1,f0,f1⟩:=q1.two;refine hK.out _ _ (fun _=>hSv.out _ hr12) ?_;clear hK K
   try simp only [Act.put,putL_a,putL_z,putL_s]
   refine Zty 2 [3,4] rfl (by kernel_rfl) (hSv.out _ hr12) ?_
   iterate 2 (refine tk1 (v:=?_) rfl (Or.inl ⟨by kernel_rfl,?_⟩) ?_;rotate_left;(· intro W2 hSw;(try dsimp only at hSw);go_simp;try with_reducible rfl);try simp only [Act.put,putL_a,putL_z,putL_s,putG_a,putG_s,putG_z])
   refine tk0 ?_;refine Ze (i:=5) rfl (by kernel_rfl) (fun K hK=>?_);go_simp;obtain ⟨Wa,hWa,hBa,qa,kW,kB,sa⟩:=Z6 np2 P2 k2 q2 hB12 (by omega) q1;rw [hWa];clear hWa x0 x1 f0 f1;have HZ:=kW _ _ _ _ _ hP.out;replace q4:=kB _ _ _ (by have:=hr12.size;omega) q4;obtain ⟨c0,c1,-⟩:=q4.two;refine hK.out _ _ (fun _=>⟨c0,c1⟩) ?_;clear hK K
   try simp only [Act.put,putL_a,putL_z,putL_s]
   refine Zty 1 [6] rfl (by kernel_rfl) ⟨c0,c1⟩ ?_
   (refine tk1 (v:=?_) rfl (Or.inl ⟨by kernel_rfl,?_⟩) ?_;rotate_left;(· intro W2 hSw;(try dsimp only at hSw);go_simp;try with_reducible rfl);try simp only [Act.put,putL_a,putL_z,putL_s,putG_a,putG_s,putG_z])
   refine tk0 ?_;refine Zj (by kernel_rfl) ?_ _;refine OnlyNormal.normal ?_;obtain ⟨y0,y1,-⟩:=qa.two;clear c0 c1;go_wp2_with fail;refine bodyPost_ret (v:=.tuple #[.agg #[.bool np2,.slice P2 k2 q2],.int .i64 0]) (by simp [results,Tryz.results142,go_sem,y0,y1]) rfl ?_;exact ⟨hBa,_,_,_,_,rfl,by rw [hz.out];exact HZ⟩
 case inr.inr =>
  have hz:=Za (Zco (x:=x) (by omega));have hc:=hc3.out hgt;subst hc;have hc:=hgt;clear hgt hc1 hc2 hc3
  by_cases hk : kq = 0
  case pos =>
   have bk : decide ((0 : Int) < (kq : Int)) = false:=decide_eq_false (by omega);have bkn : decide (0 < kq) = false:=decide_eq_false (by omega);replace hk:=Za hk;obtain ⟨q1,q4⟩:=hq.out;obtain ⟨x0,x1,f0,f1⟩:=q1.two;clear hq;replace q1:=Za q1;replace q4:=Za q4;replace hc:=Za hc;go_wp2_with fail;obtain ⟨Wa,hWa,hBa,qa,kW,kB,sa⟩:=Z6 nq Aq kq cq hB5.out (by omega) q1.out;have HZ:=kW _ _ _ _ _ hQ.out;rw [hWa];obtain ⟨y0,y1,-⟩:=qa.two;refine bodyPost_ret (v:=.tuple #[.agg #[.bool nq,.slice Aq kq cq],.int .i64 0]) (by simp [results,Tryz.results142,go_sem,y0,y1]) rfl ?_;exact ⟨hBa,_,_,_,_,rfl,by rw [hz.out];exact HZ⟩
  case neg =>
   have bk : decide ((0 : Int) < (kq : Int)) = true:=decide_eq_true (by omega)
   have bk' : (0 : Int) < (kq : Int):=by omega
   have bkn : decide (0 < kq) = true:=decide_eq_true (by omega);obtain ⟨gq,oq,rfl,hcell⟩:=hQ.out.lim.at_ (k:=0) (by omega);have hc9 : w4.cell? ⟨gq,oq,none⟩ = some (.int .u32 (((digits (Int.fdiv x.num x.den).natAbs)[0]?.getD 0 : Nat) : Int)):=hcell;clear hcell;obtain ⟨u,hu⟩ : ∃ u,(digits (Int.fdiv x.num x.den).natAbs)[0]?.getD 0 = u:=⟨_,rfl⟩;have hou:=Zg7 (u:=(Int.fdiv x.num x.den).natAbs)
   have hu32 : u < 4294967296:=by rw [<- hu];exact (Zb2 _).get _
   rw [hu] at hc9 hou;replace hou:=Za hou;clear hu;obtain ⟨q1,q4⟩:=hq.out;obtain ⟨x0,x1,f0,f1⟩:=q1.two;clear hq;replace q1:=Za q1;replace q4:=Za q4;replace hc:=Za hc;go_wp2_with fail;obtain ⟨Wa,hWa,hBa,qa,kW,kB,sa⟩:=Z6 nq (some ⟨gq,oq,none⟩) kq cq hB5.out (by omega) q1.out;have HZ:=kW _ _ _ _ _ hQ.out;rw [hWa];obtain ⟨y0,y1,-⟩:=qa.two;refine bodyPost_ret (v:=.tuple #[.agg #[.bool nq,.slice (some ⟨gq,oq,none⟩) kq cq],.int .i64 0]) (by simp [results,Tryz.results142,go_sem,y0,y1]) rfl ?_;exact ⟨hBa,_,_,_,_,rfl,by rw [hz.out];exact HZ⟩
 case inr.inl =>
  have hc:=hc2.out heq;subst hc;have hc:=heq;clear hc1 hc2 hc3
  by_cases hk : kq = 0
  case pos =>
   have bk : decide ((0 : Int) < (kq : Int)) = false:=decide_eq_false (by omega);have bkn : decide (0 < kq) = false:=decide_eq_false (by omega)
   have hq0 : Int.fdiv x.num x.den = 0:=by
    have:=digits_eq_nil.1 (List.length_eq_zero_iff.1 (hk0.out.trans hk));omega
   have hz:=Za (Zco (x:=x) (by rw [hq0];omega));clear heq hq0;replace hk:=Za hk;obtain ⟨q1,q4⟩:=hq.out;obtain ⟨x0,x1,f0,f1⟩:=q1.two;clear hq;replace q1:=Za q1;replace q4:=Za q4;replace hc:=Za hc;go_wp2_with fail;obtain ⟨Wa,hWa,hBa,qa,kW,kB,sa⟩:=Z6 nq Aq kq cq hB5.out (by omega) q1.out;have HZ:=kW _ _ _ _ _ hQ.out;rw [hWa];obtain ⟨y0,y1,-⟩:=qa.two;refine bodyPost_ret (v:=.tuple #[.agg #[.bool nq,.slice Aq kq cq],.int .i64 0]) (by simp [results,Tryz.results142,go_sem,y0,y1]) rfl ?_;exact ⟨hBa,_,_,_,_,rfl,by rw [hz.out];exact HZ⟩
  case neg =>
   have bk : decide ((0 : Int) < (kq : Int)) = true:=decide_eq_true (by omega)
   have bk' : (0 : Int) < (kq : Int):=by omega
   have bkn : decide (0 < kq) = true:=decide_eq_true (by omega);obtain ⟨gq,oq,rfl,hcell⟩:=hQ.out.lim.at_ (k:=0) (by omega);have hc9 : w4.cell? ⟨gq,oq,none⟩ = some (.int .u32 (((digits (Int.fdiv x.num x.den).natAbs)[0]?.getD 0 : Nat) : Int)):=hcell;clear hcell;obtain ⟨u,hu⟩ : ∃ u,(digits (Int.fdiv x.num x.den).natAbs)[0]?.getD 0 = u:=⟨_,rfl⟩;have hou:=Zg7 (u:=(Int.fdiv x.num x.den).natAbs)
   have hu32 : u < 4294967296:=by rw [<- hu];exact (Zb2 _).get _
   rw [hu] at hc9 hou;replace hou:=Za hou;clear hu
   by_cases hodd : u % 2 = 1
   case pos =>
    have ho1 : decide ((u : Int) % 2 = 1) = true:=decide_eq_true (by omega)
    have ho2 : ((u : Int) % 2 == 1) = true:=by simp;omega
    have hz:=Za (Zfw (x:=x) (.inr ⟨heq,by have:=hou.out;omega⟩));clear heq;replace hodd:=Za hodd;replace hc:=Za hc;go_wp2_with fail;have hSv : Hid (∀ wx,Below w4.heap.size w4 wx -> wx.cell? ⟨w2.heap.size,0,none⟩ = some (.bool nq) /\ wx.cell? ⟨w2.heap.size,1,none⟩ = some (.slice (some ⟨gq,oq,none⟩) kq cq)):=Za (fun wx hbx=>⟨Zc hbx c0,Zc hbx c1⟩);have hr : Below w4.heap.size w4 w4.drew:=Zh (Below.refl _ _) 1;clear c0 c1;refine wp_heldS [] hmx hSv hr (fun hxs=>?_);refine Zty 1 [0] rfl (by kernel_rfl) (hSv.out _ hr) ?_
    (refine tk1 (v:=?_) rfl (Or.inl ⟨by kernel_rfl,?_⟩) ?_;rotate_left;(· intro W2 hSw;(try dsimp only at hSw);go_simp;try with_reducible rfl);try simp only [Act.put,putL_a,putL_z,putL_s,putG_a,putG_s,putG_z])
    refine tk0 ?_;refine Ze (i:=1) rfl (by kernel_rfl) (fun K hK=>?_);go_simp;refine (Zbn 1 w4.drew (by omega) (by omega)).mono ?_;rintro e w11 ⟨hb11,n1,A1,k1,c1,rfl,hO⟩;have hr11:=hr.trans (hb11.mono hr.size);replace hO:=Za hO;refine hK.out _ _ (fun _=>hSv.out _ hr11) ?_;clear hK K
    try simp only [Act.put,putL_a,putL_z,putL_s]
    refine Ze (i:=2) rfl (by kernel_rfl) (fun K hK=>?_);go_simp;refine (Zh9 nq n1 (some ⟨gq,oq,none⟩) A1 kq cq k1 c1 _ _ w11 (hQ.out.below hr11) hO.out).mono ?_;rintro e w12 ⟨hb12,np2,P2,k2,q2,code2,rfl,hRes⟩;have hr12:=hr11.trans (hb12.mono hr11.size);have hP:=Za (hRes.small hqq.out);have hcode:=hRes.code0 hqq.out;subst hcode;clear hRes hqq hO;obtain ⟨q1,q4⟩:=hq.out;replace q1:=Zb hr12 q1;replace q4:=Zb hr12 q4;have hB12:=hB5.out.trans (hr12.mono hB5.out.size);obtain ⟨x0,x1,f0,f1⟩:=q1.two;refine hK.out _ _ (fun _=>hSv.out _ hr12) ?_;clear hK K
    try simp only [Act.put,putL_a,putL_z,putL_s]
    refine Zty 2 [3,4] rfl (by kernel_rfl) (hSv.out _ hr12) ?_
    iterate 2 (refine tk1 (v:=?_) rfl (Or.inl ⟨by kernel_rfl,?_⟩) ?_;rotate_left;(· intro W2 hSw;(try dsimp only at hSw);go_simp;try with_reducible rfl);try simp only [Act.put,putL_a,putL_z,putL_s,putG_a,putG_s,putG_z])
    refine tk0 ?_;refine Ze (i:=5) rfl (by kernel_rfl) (fun K hK=>?_);go_simp;obtain ⟨Wa,hWa,hBa,qa,kW,kB,sa⟩:=Z6 np2 P2 k2 q2 hB12 (by omega) q1;rw [hWa];clear hWa x0 x1 f0 f1;have HZ:=kW _ _ _ _ _ hP.out;replace q4:=kB _ _ _ (by have:=hr12.size;omega) q4;obtain ⟨c0,c1,-⟩:=q4.two;refine hK.out _ _ (fun _=>⟨c0,c1⟩) ?_;clear hK K
    try simp only [Act.put,putL_a,putL_z,putL_s]
    refine Zty 1 [6] rfl (by kernel_rfl) ⟨c0,c1⟩ ?_
    (refine tk1 (v:=?_) rfl (Or.inl ⟨by kernel_rfl,?_⟩) ?_;rotate_left;(· intro W2 hSw;(try dsimp only at hSw);go_simp;try with_reducible rfl);try simp only [Act.put,putL_a,putL_z,putL_s,putG_a,putG_s,putG_z])
    refine tk0 ?_;refine Zj (by kernel_rfl) ?_ _;refine OnlyNormal.normal ?_;obtain ⟨y0,y1,-⟩:=qa.two;clear c0 c1;go_wp2_with fail;refine bodyPost_ret (v:=.tuple #[.agg #[.bool np2,.slice P2 k2 q2],.int .i64 0]) (by simp [results,Tryz.results142,go_sem,y0,y1]) rfl ?_;exact ⟨hBa,_,_,_,_,rfl,by rw [hz.out];exact HZ⟩
   case neg =>
    have ho1 : decide ((u : Int) % 2 = 1) = false:=decide_eq_false (by omega)
    have ho2 : ((u : Int) % 2 == 1) = false:=by simp;omega
    have hz:=Za (Zco (x:=x) (by have:=hou.out;omega));clear heq;replace hodd:=Za hodd;obtain ⟨q1,q4⟩:=hq.out;obtain ⟨x0,x1,f0,f1⟩:=q1.two;clear hq;replace q1:=Za q1;replace q4:=Za q4;replace hc:=Za hc;go_wp2_with fail;obtain ⟨Wa,hWa,hBa,qa,kW,kB,sa⟩:=Z6 nq (some ⟨gq,oq,none⟩) kq cq hB5.out (by omega) q1.out;have HZ:=kW _ _ _ _ _ hQ.out;rw [hWa];obtain ⟨y0,y1,-⟩:=qa.two;refine bodyPost_ret (v:=.tuple #[.agg #[.bool nq,.slice (some ⟨gq,oq,none⟩) kq cq],.int .i64 0]) (by simp [results,Tryz.results142,go_sem,y0,y1]) rfl ?_;exact ⟨hBa,_,_,_,_,rfl,by rw [hz.out];exact HZ⟩
def Zf8 (pre : Nat) (q0 : Rat) (G : Nat -> Value -> World -> Prop) (i : Nat) (v : Value) (w : World) : Prop:=
 if i = pre then ∃ na A n c nb B m d,v = .agg #[.bool na,.slice A n c,.bool nb,.slice B m d] /\ Fr w na A n c nb B m d q0 else G i v w
theorem Zpd {pre : Nat} {q0 : Rat} {G : Nat -> Value -> World -> Prop} (hG : ∀ i v w w',Below w.heap.size w w' -> G i v w -> G i v w') {i : Nat} {v : Value} {w w' : World} (hb : Below w.heap.size w w') (h : Zf8 pre q0 G i v w) : Zf8 pre q0 G i v w':=by
 unfold Zf8 at h ⊢
 split at h
 ·rename_i h1;rw [if_pos h1]
  obtain ⟨na,A,n,c,nb,B,m,d,e,hf⟩:=h;exact ⟨na,A,n,c,nb,B,m,d,e,hf.below hb⟩
 ·rename_i h1;rw [if_neg h1];exact hG _ _ _ _ hb h
def SmpPost (s : St) (dir : List Rat) (d : Int) (w : World) (e : Ending) (w' : World) : Prop:=
 ∃ (S : St) (b : Bool),e = .returned (.tuple #[.agg S.cells,.bool b]) /\ (b = true -> movE s dir d = 0 /\ movV s dir d = S) /\ (b = false -> movE s dir d = 24 /\ movV s dir d = St.zero) /\ Below w.heap.size w w'
theorem Zql (s : St) (A : Option Addr) (c : Nat) (dir : List Rat) (d : Int) (w : World) (hD : FL w A 6 c dir) (hS : Zjo dir d) (hd1 : -9223372036854775808 <= d) (hd2 : d <= 9223372036854775807) :
    Calls Tryz.prog 81 #[.agg #[.int .i64 s.t,.int .i64 s.p0,.int .i64 s.p1,.int .i64 s.p2,.int .i64 s.v0,.int .i64 s.v1,.int .i64 s.v2],.slice A 6 c,.int .i64 d] w (SmpPost s dir d w):=by
 have hcap:=hD.cap;unfold maxLen at hcap
 have hmx : Tryz.prog.follows .mixedOrders = true:=by kernel_rfl
 obtain ⟨W0,hW0,hB0,⟨q0,q1,q2⟩,s0⟩:=Zbm w 46 #[.int .i64 s.t,.int .i64 s.p0,.int .i64 s.p1,.int .i64 s.p2,.int .i64 s.v0,.int .i64 s.v1,.int .i64 s.v2] 46 #[.int .i64 0,.int .i64 0,.int .i64 0,.int .i64 0,.int .i64 0,.int .i64 0,.int .i64 0] 46 #[.int .i64 s.t,.int .i64 s.p0,.int .i64 s.p1,.int .i64 s.p2,.int .i64 s.v0,.int .i64 s.v1,.int .i64 s.v2];have q0' : Blk W0 w.heap.size 46 s.cells:=q0;have q1' : Blk W0 (w.heap.size + 1) 46 St.zero.cells:=q1;have q2' : Blk W0 (w.heap.size + 1 + 1) 46 (mvS s (Zb9 dir d) 0).cells:=q2;have hDh:=Za hD;have hWh:=Za (fun W=>Zky d W hd1 hd2);replace hS:=Za hS;clear q0 q1 q2 hD;have hq:=Za (And.intro q0' (And.intro q1' q2'));clear q0' q1' q2';replace hW0:=Za hW0;replace hB0:=Za hB0;go_enter Tryz.func81,Tryz.ntmps81;have hW0':=hW0.out;go_wp2_with fail;clear hW0';(try rw [hW0.out])
 go_loopg [9] 6 (fun k iv wr=>∃ i : Nat,i + k = 6 /\ iv = .int .i64 i /\ Hid (Below w.heap.size w wr) /\ Hid (∀ j,j < i -> Zby (Zb9 dir d j)) /\ Hid (Blk wr w.heap.size 46 s.cells /\ Blk wr (w.heap.size + 1) 46 St.zero.cells /\ Blk wr (w.heap.size + 1 + 1) 46 (mvS s (Zb9 dir d) i).cells))
 case atStart=>exact ⟨0,by omega,rfl,hB0,Za (fun j hj=>by omega),hq⟩
 case round =>
  clear hq hB0 hW0;obtain ⟨wi,rfl⟩ : ∃ x : World,x = wr:=⟨_,rfl⟩;obtain ⟨i,hik,rfl,hBi,hN,hq⟩:=hrel;have sBi:=hBi.out.size
  cases gk with
  | zero =>
   obtain rfl : i = 6:=by omega
   obtain ⟨q0,q1,q2⟩:=hq.out;obtain ⟨S6,hS6⟩ : ∃ S,mvS s (Zb9 dir d) 6 = S:=⟨_,rfl⟩;rw [hS6] at q2;obtain ⟨c0,c1,c2,c3,c4,c5,c6⟩:=Zaf (show Blk wi (w.heap.size + 1 + 1) 46 #[.int .i64 S6.t,.int .i64 S6.p0,.int .i64 S6.p1,.int .i64 S6.p2,.int .i64 S6.v0,.int .i64 S6.v1,.int .i64 S6.v2] from q2);clear hq;have hq:=Za (And.intro q1 q2);have l2:=q2.lt;clear q0 q1 q2;obtain ⟨E,hE⟩ : ∃ E,stE S6 = E:=⟨_,rfl⟩
   have t5 : decide (((6 : Nat) : Int) < 6) = false:=by decide
   go_wp2_with fail;have hSv : Hid (∀ wx,Below wi.heap.size wi wx -> wx.cell? ⟨w.heap.size + 1 + 1,0,none⟩ = some (.int .i64 S6.t) /\ wx.cell? ⟨w.heap.size + 1 + 1,1,none⟩ = some (.int .i64 S6.p0) /\ wx.cell? ⟨w.heap.size + 1 + 1,2,none⟩ = some (.int .i64 S6.p1) /\ wx.cell? ⟨w.heap.size + 1 + 1,3,none⟩ = some (.int .i64 S6.p2) /\ wx.cell? ⟨w.heap.size + 1 + 1,4,none⟩ = some (.int .i64 S6.v0) /\ wx.cell? ⟨w.heap.size + 1 + 1,5,none⟩ = some (.int .i64 S6.v1) /\ wx.cell? ⟨w.heap.size + 1 + 1,6,none⟩ = some (.int .i64 S6.v2)):=Za (fun wx hbx=>⟨Zc hbx c0,Zc hbx c1,Zc hbx c2,Zc hbx c3,Zc hbx c4,Zc hbx c5,Zc hbx c6⟩);have hr : Below wi.heap.size wi wi.drew:=Zh (Below.refl _ _) 1;clear c0 c1 c2 c3 c4 c5 c6;refine wp_heldS [] hmx hSv hr (fun hxs=>?_);refine Zty 2 [0,1] rfl (by kernel_rfl) (hSv.out _ hr) ?_
   iterate 2 (refine tk1 (v:=?_) rfl (Or.inl ⟨by kernel_rfl,?_⟩) ?_;rotate_left;(· intro W2 hSw;(try dsimp only at hSw);go_simp;try with_reducible rfl);try simp only [Act.put,putL_a,putL_z,putL_s,putG_a,putG_s,putG_z])
   refine tk0 ?_;refine Ze (i:=2) rfl (by kernel_rfl) (fun K hK=>?_);go_simp;refine (Zhr S6 wi.drew).mono ?_;rintro e w8 ⟨rfl,hb8⟩;have hr8:=hr.trans (hb8.mono hr.size);rw [hE];refine hK.out _ _ (fun _=>hSv.out _ hr8) ?_;clear hK K
   try simp only [Act.put,putL_a,putL_z,putL_s]
   by_cases h0 : E = 0
   case neg =>
    have t0 : (E == 0) = false:=by simpa using h0
    have t0' : decide (E = 0) = false:=by simpa using h0
    have hM:=Za (Zmp (s:=s) (dir:=dir) (d:=d) (by rw [hS6,hE];exact h0));replace h0:=Za h0;clear hS6 hE;obtain ⟨q1,q2⟩:=hq.out;replace q1:=Zb hr8 q1;replace q2:=Zb hr8 q2;have hB8:=hBi.out.trans (hr8.mono hBi.out.size);obtain ⟨x0,x1,x2,x3,x4,x5,x6⟩:=Zaf (show Blk w8 (w.heap.size + 1) 46 #[.int .i64 0,.int .i64 0,.int .i64 0,.int .i64 0,.int .i64 0,.int .i64 0,.int .i64 0] from q1);obtain ⟨f0,f1,f2,f3,f4,f5,f6⟩:=q1.frozen7;refine Zty 1 [3] rfl (by kernel_rfl) (hSv.out _ hr8) ?_
    (refine tk1 (v:=?_) rfl (Or.inl ⟨by kernel_rfl,?_⟩) ?_;rotate_left;(· intro W2 hSw;(try dsimp only at hSw);go_simp;try with_reducible rfl);try simp only [Act.put,putL_a,putL_z,putL_s,putG_a,putG_s,putG_z])
    refine tk0 ?_;refine Ze (i:=4) rfl (by kernel_rfl) (fun K hK=>?_);go_simp;obtain ⟨Wa,hWa,hBa,qa⟩:=Zll S6 hB8 (by omega) q1;(try rw [hWa])
    have hfar : ∀ k v,w8.cell? ⟨w.heap.size + 1 + 1,k,none⟩ = some v -> Wa.cell? ⟨w.heap.size + 1 + 1,k,none⟩ = some v:=fun k v h=>by
     rw [<- hWa]
     simp [h,go_sem]
    have hSa:=hSv.out _ hr8;have hSz : Wa.cell? ⟨w.heap.size + 1 + 1,0,none⟩ = some (.int .i64 S6.t) /\ Wa.cell? ⟨w.heap.size + 1 + 1,1,none⟩ = some (.int .i64 S6.p0) /\ Wa.cell? ⟨w.heap.size + 1 + 1,2,none⟩ = some (.int .i64 S6.p1) /\ Wa.cell? ⟨w.heap.size + 1 + 1,3,none⟩ = some (.int .i64 S6.p2) /\ Wa.cell? ⟨w.heap.size + 1 + 1,4,none⟩ = some (.int .i64 S6.v0) /\ Wa.cell? ⟨w.heap.size + 1 + 1,5,none⟩ = some (.int .i64 S6.v1) /\ Wa.cell? ⟨w.heap.size + 1 + 1,6,none⟩ = some (.int .i64 S6.v2):=⟨hfar _ _ hSa.1,hfar _ _ hSa.2.1,hfar _ _ hSa.2.2.1,hfar _ _ hSa.2.2.2.1,hfar _ _ hSa.2.2.2.2.1,hfar _ _ hSa.2.2.2.2.2.1,hfar _ _ hSa.2.2.2.2.2.2⟩;clear hfar hSa;refine hK.out _ _ (fun _=>hSz) ?_;clear hK K
    try simp only [Act.put,putL_a,putL_z,putL_s]
    refine Ztx 1 [5] rfl (by kernel_rfl) hSz ?_
    (refine tk1 (v:=?_) rfl (Or.inl ⟨by kernel_rfl,?_⟩) ?_;rotate_left;(· intro W2 _;go_simp;try with_reducible rfl);try simp only [Act.put,putL_a,putL_z,putL_s,putG_a,putG_s,putG_z])
    refine tk0 ?_;refine Zj (by kernel_rfl) ?_ _;refine OnlyNormal.normal ?_;obtain ⟨y0,y1,y2,y3,y4,y5,y6⟩:=Zaf (show Blk Wa (w.heap.size + 1) 46 #[.int .i64 S6.t,.int .i64 S6.p0,.int .i64 S6.p1,.int .i64 S6.p2,.int .i64 S6.v0,.int .i64 S6.v1,.int .i64 S6.v2] from qa);clear hSz hWa hSv hr hr8 hb8 hxs x0 x1 x2 x3 x4 x5 x6 f0 f1 f2 f3 f4 f5 f6 q1 q2 hq;go_wp2_with fail;refine bodyPost_ret (v:=.tuple #[.agg #[.int .i64 S6.t,.int .i64 S6.p0,.int .i64 S6.p1,.int .i64 S6.p2,.int .i64 S6.v0,.int .i64 S6.v1,.int .i64 S6.v2],.bool false]) (by simp [results,Tryz.results81,go_sem,y0,y1,y2,y3,y4,y5,y6]) rfl ?_;exact ⟨S6,false,rfl,fun h=>absurd h (by decide),fun _=>hM.out,hBa⟩
   case pos =>
    subst h0
    have t0 : ((0 : Int) == 0) = true:=by decide
    have hM:=Za (Zqc (s:=s) (dir:=dir) (d:=d) (fun j hj=>hN.out j hj) (by rw [hS6,hE]));rw [hS6] at hM;clear hS6 hE;obtain ⟨q1,q2⟩:=hq.out;replace q1:=Zb hr8 q1;replace q2:=Zb hr8 q2;have hB8:=hBi.out.trans (hr8.mono hBi.out.size);obtain ⟨x0,x1,x2,x3,x4,x5,x6⟩:=Zaf (show Blk w8 (w.heap.size + 1) 46 #[.int .i64 0,.int .i64 0,.int .i64 0,.int .i64 0,.int .i64 0,.int .i64 0,.int .i64 0] from q1);obtain ⟨f0,f1,f2,f3,f4,f5,f6⟩:=q1.frozen7;refine Zty 1 [3] rfl (by kernel_rfl) (hSv.out _ hr8) ?_
    (refine tk1 (v:=?_) rfl (Or.inl ⟨by kernel_rfl,?_⟩) ?_;rotate_left;(· intro W2 hSw;(try dsimp only at hSw);go_simp;try with_reducible rfl);try simp only [Act.put,putL_a,putL_z,putL_s,putG_a,putG_s,putG_z])
    refine tk0 ?_;refine Ze (i:=4) rfl (by kernel_rfl) (fun K hK=>?_);go_simp;obtain ⟨Wa,hWa,hBa,qa⟩:=Zll S6 hB8 (by omega) q1;(try rw [hWa])
    have hfar : ∀ k v,w8.cell? ⟨w.heap.size + 1 + 1,k,none⟩ = some v -> Wa.cell? ⟨w.heap.size + 1 + 1,k,none⟩ = some v:=fun k v h=>by
     rw [<- hWa]
     simp [h,go_sem]
    have hSa:=hSv.out _ hr8;have hSz : Wa.cell? ⟨w.heap.size + 1 + 1,0,none⟩ = some (.int .i64 S6.t) /\ Wa.cell? ⟨w.heap.size + 1 + 1,1,none⟩ = some (.int .i64 S6.p0) /\ Wa.cell? ⟨w.heap.size + 1 + 1,2,none⟩ = some (.int .i64 S6.p1) /\ Wa.cell? ⟨w.heap.size + 1 + 1,3,none⟩ = some (.int .i64 S6.p2) /\ Wa.cell? ⟨w.heap.size + 1 + 1,4,none⟩ = some (.int .i64 S6.v0) /\ Wa.cell? ⟨w.heap.size + 1 + 1,5,none⟩ = some (.int .i64 S6.v1) /\ Wa.cell? ⟨w.heap.size + 1 + 1,6,none⟩ = some (.int .i64 S6.v2):=⟨hfar _ _ hSa.1,hfar _ _ hSa.2.1,hfar _ _ hSa.2.2.1,hfar _ _ hSa.2.2.2.1,hfar _ _ hSa.2.2.2.2.1,hfar _ _ hSa.2.2.2.2.2.1,hfar _ _ hSa.2.2.2.2.2.2⟩;clear hfar hSa;refine hK.out _ _ (fun _=>hSz) ?_;clear hK K
    try simp only [Act.put,putL_a,putL_z,putL_s]
    refine Ztx 1 [5] rfl (by kernel_rfl) hSz ?_
    (refine tk1 (v:=?_) rfl (Or.inl ⟨by kernel_rfl,?_⟩) ?_;rotate_left;(· intro W2 _;go_simp;try with_reducible rfl);try simp only [Act.put,putL_a,putL_z,putL_s,putG_a,putG_s,putG_z])
    refine tk0 ?_;refine Zj (by kernel_rfl) ?_ _;refine OnlyNormal.normal ?_;obtain ⟨y0,y1,y2,y3,y4,y5,y6⟩:=Zaf (show Blk Wa (w.heap.size + 1) 46 #[.int .i64 S6.t,.int .i64 S6.p0,.int .i64 S6.p1,.int .i64 S6.p2,.int .i64 S6.v0,.int .i64 S6.v1,.int .i64 S6.v2] from qa);clear hSz hWa hSv hr hr8 hb8 hxs x0 x1 x2 x3 x4 x5 x6 f0 f1 f2 f3 f4 f5 f6 q1 q2 hq;go_wp2_with fail;refine bodyPost_ret (v:=.tuple #[.agg #[.int .i64 S6.t,.int .i64 S6.p0,.int .i64 S6.p1,.int .i64 S6.p2,.int .i64 S6.v0,.int .i64 S6.v1,.int .i64 S6.v2],.bool true]) (by simp [results,Tryz.results81,go_sem,y0,y1,y2,y3,y4,y5,y6]) rfl ?_;exact ⟨S6,true,rfl,fun _=>hM.out,fun h=>absurd h (by decide),hBa⟩
  | succ t' =>
   obtain rfl : t' = 6 - (i + 1):=by omega
   have hi6 : i < 6:=by omega
   have t5 : decide ((i : Int) < 6) = true:=decide_eq_true (by omega)
   have bi : (i : Int) < 6:=by omega
   have bi' : (i : Int) < ((6 : Nat) : Int):=by omega
   obtain ⟨g2,o2,fn,fA,fk,fc,fm,fB,fj,fd,rfl,⟨x0,x1,x2,x3⟩,hX⟩:=(hDh.out.below hBi.out).at_ hi6;go_wp2_with fail;have hSv1 : Hid (∀ wx,Below wi.heap.size wi wx -> wx.cell? ⟨g2,o2 + i * 4,none⟩ = some (.bool fn) /\ wx.cell? ⟨g2,o2 + i * 4 + 1,none⟩ = some (.slice fA fk fc) /\ wx.cell? ⟨g2,o2 + i * 4 + 2,none⟩ = some (.bool fm) /\ wx.cell? ⟨g2,o2 + i * 4 + 3,none⟩ = some (.slice fB fj fd)):=Za (fun wx hbx=>⟨Zc hbx x0,Zc hbx x1,Zc hbx x2,Zc hbx x3⟩);have hr1 : Below wi.heap.size wi wi.drew:=Zh (Below.refl _ _) 1;refine wp_heldS [] hmx hSv1 hr1 (fun hxs1=>?_);refine Zty 5 [0,1,2,3,4] rfl (by kernel_rfl) (hSv1.out _ hr1) ?_
   iterate 5 (refine tk1 (v:=?_) rfl (Or.inl ⟨by kernel_rfl,?_⟩) ?_;rotate_left;(· intro W2 hSw;(try dsimp only at hSw);go_simp;try with_reducible rfl);try simp only [Act.put,putL_a,putL_z,putL_s,putG_a,putG_s,putG_z])
   refine tk0 ?_;refine Zcp [(5,27),(6,28),(7,21),(8,29),(10,10)] (fun i=>match i with | 7=>[9] | _=>[]) [(5,27),(6,28),(7,21),(9,30),(8,29),(10,10)] (Zf8 5 (d : Rat) (Zah wi.heap.size (dir[i]?.getD 0 * (d : Rat)) 6 7 8 9 10 9)) 2 (by kernel_rfl) (fun _ _ _ _ _ hb h=>Zpd (fun _ _ _ _ hb h=>Zdq hb h) hb h) (fun wx h=>hSv1.out _ (hr1.trans (h.mono hr1.size))) ?hop1 ?hfin1
   case hop1 =>
    intro p hp;simp only [List.mem_cons,List.not_mem_nil,or_false] at hp;simp only [List.map_cons,List.map_nil,Zao,Act.put,putL_a,putL_z,putL_s]
    rcases hp with rfl | rfl | rfl | rfl | rfl
    ·intro ν wx hb hP
     have hbx:=hr1.trans (hb.mono hr1.size);refine Zab (i:=5) rfl (fun K hK=>?_);go_simp;refine (hWh.out wx).mono ?_;rintro e w5 ⟨hb5,na5,A5,k5,c5,nb5,B5,m5,d5,rfl,hf5⟩;exact hK.out _ _ ⟨_,rfl,(by simp only [Zf8,if_true];exact ⟨_,_,_,_,_,_,_,_,rfl,hf5⟩),hb5,trivial⟩
    ·intro ν wx hb hP
     have hbx:=hr1.trans (hb.mono hr1.size);have h9:=hP (5,27) (by simp) (by kernel_rfl);simp only [Zf8,if_true] at h9;obtain ⟨un,uA,uk,uc,um,uB,uj,ud,hνu,hfu⟩:=h9;rw [hνu];refine Zab (i:=6) rfl (fun K hK=>?_);go_simp;refine (Zj7 fn fm un um fA fB uA uB fk fc fj fd uk uc uj ud _ _ wx (hX.below hbx) hfu (hS.out.2 i).1 hS.out.1).mono ?_;rintro e w5 ⟨hb5,na5,A5,k5,c5,nb5,B5,m5,d5,rfl,hf5⟩;exact hK.out _ _ ⟨_,rfl,(by simp only [Zf8,Zah];exact ⟨_,_,_,_,_,_,_,_,rfl,hf5⟩),hb5,trivial⟩
    ·intro ν wx hb hP
     have h0:=hP (6,28) (by simp) (by kernel_rfl);simp only [Zf8,Zah] at h0;obtain ⟨na5,A5,k5,c5,nb5,B5,m5,d5,hν,hf5⟩:=h0;rw [hν];refine Zab (i:=7) rfl (fun K hK=>?_);go_simp;refine hK.out _ _ ⟨_,rfl,(by simp only [Zf8,Zah];exact ⟨_,_,_,_,_,_,_,_,rfl,hf5⟩),Below.refl _ _,?_⟩;exact ⟨_,.int .i64 0,rfl,Or.inl ⟨by kernel_rfl,fun W2 _=>by go_simp⟩,by simp [Zf8,Zah],trivial⟩
    ·intro ν wx hb hP
     have h0:=hP (7,21) (by simp) (by kernel_rfl);simp only [Zf8,Zah] at h0;obtain ⟨na5,A5,k5,c5,nb5,B5,m5,d5,hν,hf5⟩:=h0;rw [hν];refine Zab (i:=8) rfl (fun K hK=>?_);go_simp;exact hK.out _ _ ⟨_,rfl,(by simp only [Zf8,Zah];exact ⟨_,_,_,_,_,_,_,_,rfl,hf5⟩),Below.refl _ _,trivial⟩
    ·intro ν wx hb hP
     refine Zab (i:=10) rfl (fun K hK=>?_);go_simp;exact hK.out _ _ ⟨_,rfl,(by simp only [Zf8,Zah];exact ⟨_,rfl,hb.size,Blk.new _ _ _⟩),(Below.refl _ _).alloc (Nat.le_refl _) _,trivial⟩
   case hfin1 =>
    intro ν wx hb hP;have h0:=hP (6,28) (by simp);have h1:=hP (7,21) (by simp);have h2:=hP (8,29) (by simp);have h3:=hP (9,30) (by simp);have h4:=hP (10,10) (by simp);have h9:=hP (5,27) (by simp);simp only [Zf8,Zah] at h0 h1 h2 h4 h9;obtain ⟨a0,a1,a2,a3,a4,a5,a6,a7,h0,-⟩:=h0;obtain ⟨b0',b1',b2',b3',b4',b5',b6',b7',h1,-⟩:=h1;obtain ⟨bbn,bbA,bbk,bbc,bbm,bbB,bbj,bbd,h2,bbf⟩:=h2;obtain ⟨gbb,h4,kv,qv⟩:=h4;obtain ⟨e0',e1',e2',e3',e4',e5',e6',e7',h9,-⟩:=h9;simp only [List.map_cons,List.map_nil,Zao,Act.put,putL_a,putL_z,putL_s];rw [h9,h0,h1,h2,(show ν 30 = Value.int .i64 0 by simpa [Zf8,Zah] using h3),h4];clear h0 h1 h2 h3 h4 h9 hP ν;have hbx:=hr1.trans (hb.mono hr1.size);have qv4:=qv.four;have kv2 : wi.heap.size <= gbb:=kv;refine (Zaa bbn bbA bbk bbc bbm bbB bbj bbd hbx kv2 qv).elim (fun Zbb hq=>?_);have c0:=qv4.1;have c1':=qv4.2.1;have c2':=qv4.2.2.1;have c3:=qv4.2.2.2.1;have f0:=qv4.2.2.2.2.1;have f1:=qv4.2.2.2.2.2.1;have f2:=qv4.2.2.2.2.2.2.1;have f3:=qv4.2.2.2.2.2.2.2;have hZ:=hq.1;refine Ze (i:=11) rfl (by kernel_rfl) (fun K hK=>?_);go_simp;(try rw [hZ]);refine hK.out _ _ (fun _=>hSv1.out _ hq.2.1) ?_;clear hK K
    try simp only [Act.put,putL_a,putL_z,putL_s]
    refine Ztx 1 [12] rfl (by kernel_rfl) (hSv1.out _ hq.2.1) ?_
    (refine tk1 (v:=?_) rfl (Or.inl ⟨by kernel_rfl,?_⟩) ?_;rotate_left;(· intro W2 _;go_simp;try with_reducible rfl);try simp only [Act.put,putL_a,putL_z,putL_s,putG_a,putG_s,putG_z])
    refine tk0 ?_;refine Zj (by kernel_rfl) ?_ _;refine OnlyNormal.normal ?_;have hbZbb:=hq.2.1;have bbb:=Za hq.2.2.1;replace bbf:=Za (Fr.keep bbf hq.2.2.2.1);clear hq hZ c0 c1' c2' c3 f0 f1 f2 f3 qv4 qv kv hbx hb hr1 hSv1 hxs1;obtain ⟨z0,z1,z2,z3,-⟩:=bbb.out.four;obtain ⟨q0,q1,q2⟩:=hq.out;have sZ:=hbZbb.size;replace q0:=Zb hbZbb q0;replace q1:=Zb hbZbb q1;replace q2:=Zb hbZbb q2;have hB6:=Za (hBi.out.trans (hbZbb.mono hBi.out.size));clear hq x0 x1 x2 x3 hX hbZbb;have hq:=Za (And.intro q0 (And.intro q1 q2));clear q0 q1 q2;go_wp2_with fail;refine (Zrg bbn bbm bbA bbB bbk bbc bbj bbd _ Zbb bbf.out (hS.out.2 i).2).mono ?_;rintro e w7 ⟨hb7,nz,Az,kz,cz,rfl,hZ⟩;obtain ⟨q0,q1,q2⟩:=hq.out;have s7:=hb7.size;replace q0:=(Zb hb7 q0).alloc (.cells #[.bool nz,.slice Az kz cz] 27);replace q1:=(Zb hb7 q1).alloc (.cells #[.bool nz,.slice Az kz cz] 27);replace q2:=(Zb hb7 q2).alloc (.cells #[.bool nz,.slice Az kz cz] 27);have hB7:=(hB6.out.trans (hb7.mono hB6.out.size)).alloc (by have:=hB6.out.size;omega) (.cells #[.bool nz,.slice Az kz cz] 27);have hZ7:=hZ.alloc (.cells #[.bool nz,.slice Az kz cz] 27);obtain ⟨V8,hV8⟩ : ∃ V,w7.alloc (.cells #[.bool nz,.slice Az kz cz] 27) = V:=⟨_,rfl⟩;rw [hV8] at q0 q1 q2 hB7 hZ7;obtain ⟨z,hz⟩ : ∃ z,Zgh (dir[i]?.getD 0 * (d : Rat)) = z:=⟨_,rfl⟩;rw [hz] at hZ7;have hzw : Zb9 dir d i = z:=hz;clear hq hb7 hZ hz bbf bbb z0 z1 z2 z3 hB6;have hq:=Za (And.intro q0 (And.intro q1 q2));clear q0 q1 q2;replace hB7:=Za hB7;replace hZ7:=Za hZ7;replace hV8:=Za hV8
    replace hzw:=Za hzw;go_wp2_with fail;rw [hV8.out];refine (Zqa nz Az kz cz z V8 hZ7.out).mono ?_;rintro e w9 ⟨rfl,hb9⟩;obtain ⟨q0,q1,q2⟩:=hq.out;replace q0:=Zb hb9 q0;replace q1:=Zb hb9 q1;replace q2:=Zb hb9 q2;have hB9:=hB7.out.trans (hb9.mono hB7.out.size);clear hq hV8 hb9 hZ7 hB7
    by_cases hn : Zby z
    case neg =>
     have hM:=Za (Znm (s:=s) (dir:=dir) (d:=d) hi6 (by rw [hzw.out];exact hn));obtain ⟨f0,f1,f2,f3,f4,f5,f6⟩:=q1.frozen7;obtain ⟨x0,x1,x2,x3,x4,x5,x6⟩:=Zaf (show Blk w9 (w.heap.size + 1) 46 #[.int .i64 0,.int .i64 0,.int .i64 0,.int .i64 0,.int .i64 0,.int .i64 0,.int .i64 0] from q1);have hqq:=Za (And.intro hB9 q1);clear hB9 q1 q0 q2 hzw hN
     by_cases hfit : -9223372036854775808 <= z /\ z < 9223372036854775808
     case neg =>
      rw [Zce hfit,Zcf hfit];clear hfit hn;go_wp2_with fail;obtain ⟨W6,hW6,hB6,q6⟩:=Zdg hqq.out.1 (by omega) hqq.out.2;rw [hW6];obtain ⟨y0,y1,y2,y3,y4,y5,y6⟩:=Zaf (show Blk W6 (w.heap.size + 1) 46 #[.int .i64 0,.int .i64 0,.int .i64 0,.int .i64 0,.int .i64 0,.int .i64 0,.int .i64 0] from q6);refine bodyPost_ret (v:=.tuple #[.agg #[.int .i64 0,.int .i64 0,.int .i64 0,.int .i64 0,.int .i64 0,.int .i64 0,.int .i64 0],.bool false]) (by simp [results,Tryz.results81,go_sem,y0,y1,y2,y3,y4,y5,y6]) rfl ?_;exact ⟨St.zero,false,rfl,fun h=>absurd h (by decide),fun _=>hM.out,hB6⟩
     rw [Zcx hfit,Zcw hfit]
     by_cases hgt : 1152921504606846976 < z
     case pos =>
      have t6 : decide (1152921504606846976 < z) = true:=decide_eq_true hgt;clear hfit hn hgt;go_wp2_with fail;obtain ⟨W6,hW6,hB6,q6⟩:=Zdg hqq.out.1 (by omega) hqq.out.2;rw [hW6];obtain ⟨y0,y1,y2,y3,y4,y5,y6⟩:=Zaf (show Blk W6 (w.heap.size + 1) 46 #[.int .i64 0,.int .i64 0,.int .i64 0,.int .i64 0,.int .i64 0,.int .i64 0,.int .i64 0] from q6);refine bodyPost_ret (v:=.tuple #[.agg #[.int .i64 0,.int .i64 0,.int .i64 0,.int .i64 0,.int .i64 0,.int .i64 0,.int .i64 0],.bool false]) (by simp [results,Tryz.results81,go_sem,y0,y1,y2,y3,y4,y5,y6]) rfl ?_;exact ⟨St.zero,false,rfl,fun h=>absurd h (by decide),fun _=>hM.out,hB6⟩
     case neg =>
      have t6 : decide (1152921504606846976 < z) = false:=decide_eq_false hgt;have t7 : decide (z < -1152921504606846976) = true:=decide_eq_true (by unfold Zby at hn;omega);clear hfit hn hgt;go_wp2_with fail;obtain ⟨W6,hW6,hB6,q6⟩:=Zdg hqq.out.1 (by omega) hqq.out.2;rw [hW6];obtain ⟨y0,y1,y2,y3,y4,y5,y6⟩:=Zaf (show Blk W6 (w.heap.size + 1) 46 #[.int .i64 0,.int .i64 0,.int .i64 0,.int .i64 0,.int .i64 0,.int .i64 0,.int .i64 0] from q6);refine bodyPost_ret (v:=.tuple #[.agg #[.int .i64 0,.int .i64 0,.int .i64 0,.int .i64 0,.int .i64 0,.int .i64 0,.int .i64 0],.bool false]) (by simp [results,Tryz.results81,go_sem,y0,y1,y2,y3,y4,y5,y6]) rfl ?_;exact ⟨St.zero,false,rfl,fun h=>absurd h (by decide),fun _=>hM.out,hB6⟩
    have hfit : -9223372036854775808 <= z /\ z < 9223372036854775808:=by unfold Zby at hn;omega
    rw [Zcx hfit,Zcw hfit];have t6 : decide (1152921504606846976 < z) = false:=decide_eq_false (by unfold Zby at hn;omega);have t7 : decide (z < -1152921504606846976) = false:=decide_eq_false (by unfold Zby at hn;omega)
    have hN2 : Hid (∀ j,j < i + 1 -> Zby (Zb9 dir d j)):=Za (fun j hj=>by
     by_cases e : j = i
     ·subst e;rw [hzw.out];exact hn
     ·exact hN.out j (by omega))
    replace hn:=Za hn;obtain ⟨c0,c1,c2,c3,c4,c5,c6⟩:=Zaf (show Blk w9 w.heap.size 46 #[.int .i64 s.t,.int .i64 s.p0,.int .i64 s.p1,.int .i64 s.p2,.int .i64 s.v0,.int .i64 s.v1,.int .i64 s.v2] from q0);have hq:=Za (And.intro q0 (And.intro q1 q2));clear hfit hN;replace hB9:=Za hB9
    rcases (show i = 0 \/ i = 1 \/ i = 2 \/ i = 3 \/ i = 4 \/ i = 5 by omega) with rfl | rfl | rfl | rfl | rfl | rfl
    case inl =>
   have e1:=q2.cell 1;have e2:=q2.frozen 1;rw [Zep s _ (by omega)] at e1;clear q0 q1 q2;go_wp2_with fail;obtain ⟨q0,q1,q2⟩:=hq.out;obtain ⟨W10,hW10,hB10,q2',kW,kB,s10⟩:=Zer (.int .i64 (wrap64 (s.p0 + z))) hB9.out (by omega) q2 (St.noLimb _);rw [hW10];replace q0:=kB _ _ _ (by omega) q0;replace q1:=kB _ _ _ (by omega) q1
   have q2'' : Blk W10 (w.heap.size + 1 + 1) 46 (mvS s (Zb9 dir d) 1).cells:=by
    have h:=Zed s (Zb9 dir d) (show 0 < 6 by omega);rw [hzw.out] at h;exact h ▸ q2'
   have hfin:=Za (And.intro q0 (And.intro q1 q2''));replace hB10:=Za hB10;clear hq hW10 hB9 q0 q1 q2 q2' q2'' kW kB e1 e2
   go_roundg 5
   case measure=>omega
   case rel=>exact ⟨1,by omega,by go_num,hB10,hN2,hfin⟩
    case inr.inl =>
   have e1:=q2.cell 2;have e2:=q2.frozen 2;rw [Zep s _ (by omega)] at e1;clear q0 q1 q2;go_wp2_with fail;obtain ⟨q0,q1,q2⟩:=hq.out;obtain ⟨W10,hW10,hB10,q2',kW,kB,s10⟩:=Zer (.int .i64 (wrap64 (s.p1 + z))) hB9.out (by omega) q2 (St.noLimb _);rw [hW10];replace q0:=kB _ _ _ (by omega) q0;replace q1:=kB _ _ _ (by omega) q1
   have q2'' : Blk W10 (w.heap.size + 1 + 1) 46 (mvS s (Zb9 dir d) 2).cells:=by
    have h:=Zed s (Zb9 dir d) (show 1 < 6 by omega);rw [hzw.out] at h;exact h ▸ q2'
   have hfin:=Za (And.intro q0 (And.intro q1 q2''));replace hB10:=Za hB10;clear hq hW10 hB9 q0 q1 q2 q2' q2'' kW kB e1 e2
   go_roundg 4
   case measure=>omega
   case rel=>exact ⟨2,by omega,by go_num,hB10,hN2,hfin⟩
    case inr.inr.inl =>
   have e1:=q2.cell 3;have e2:=q2.frozen 3;rw [Zep s _ (by omega)] at e1;clear q0 q1 q2;go_wp2_with fail;obtain ⟨q0,q1,q2⟩:=hq.out;obtain ⟨W10,hW10,hB10,q2',kW,kB,s10⟩:=Zer (.int .i64 (wrap64 (s.p2 + z))) hB9.out (by omega) q2 (St.noLimb _);rw [hW10];replace q0:=kB _ _ _ (by omega) q0;replace q1:=kB _ _ _ (by omega) q1
   have q2'' : Blk W10 (w.heap.size + 1 + 1) 46 (mvS s (Zb9 dir d) 3).cells:=by
    have h:=Zed s (Zb9 dir d) (show 2 < 6 by omega);rw [hzw.out] at h;exact h ▸ q2'
   have hfin:=Za (And.intro q0 (And.intro q1 q2''));replace hB10:=Za hB10;clear hq hW10 hB9 q0 q1 q2 q2' q2'' kW kB e1 e2
   go_roundg 3
   case measure=>omega
   case rel=>exact ⟨3,by omega,by go_num,hB10,hN2,hfin⟩
    case inr.inr.inr.inl =>
   have e1:=q2.cell 4;have e2:=q2.frozen 4;rw [Zep s _ (by omega)] at e1;clear q0 q1 q2;go_wp2_with fail;obtain ⟨q0,q1,q2⟩:=hq.out;obtain ⟨W10,hW10,hB10,q2',kW,kB,s10⟩:=Zer (.int .i64 (wrap64 (s.v0 + z))) hB9.out (by omega) q2 (St.noLimb _);rw [hW10];replace q0:=kB _ _ _ (by omega) q0;replace q1:=kB _ _ _ (by omega) q1
   have q2'' : Blk W10 (w.heap.size + 1 + 1) 46 (mvS s (Zb9 dir d) 4).cells:=by
    have h:=Zed s (Zb9 dir d) (show 3 < 6 by omega);rw [hzw.out] at h;exact h ▸ q2'
   have hfin:=Za (And.intro q0 (And.intro q1 q2''));replace hB10:=Za hB10;clear hq hW10 hB9 q0 q1 q2 q2' q2'' kW kB e1 e2
   go_roundg 2
   case measure=>omega
   case rel=>exact ⟨4,by omega,by go_num,hB10,hN2,hfin⟩
    case inr.inr.inr.inr.inl =>
   have e1:=q2.cell 5;have e2:=q2.frozen 5;rw [Zep s _ (by omega)] at e1;clear q0 q1 q2;go_wp2_with fail;obtain ⟨q0,q1,q2⟩:=hq.out;obtain ⟨W10,hW10,hB10,q2',kW,kB,s10⟩:=Zer (.int .i64 (wrap64 (s.v1 + z))) hB9.out (by omega) q2 (St.noLimb _);rw [hW10];replace q0:=kB _ _ _ (by omega) q0;replace q1:=kB _ _ _ (by omega) q1
   have q2'' : Blk W10 (w.heap.size + 1 + 1) 46 (mvS s (Zb9 dir d) 5).cells:=by
    have h:=Zed s (Zb9 dir d) (show 4 < 6 by omega);rw [hzw.out] at h;exact h ▸ q2'
   have hfin:=Za (And.intro q0 (And.intro q1 q2''));replace hB10:=Za hB10;clear hq hW10 hB9 q0 q1 q2 q2' q2'' kW kB e1 e2
   go_roundg 1
   case measure=>omega
   case rel=>exact ⟨5,by omega,by go_num,hB10,hN2,hfin⟩
    case inr.inr.inr.inr.inr =>
   have e1:=q2.cell 6;have e2:=q2.frozen 6;rw [Zep s _ (by omega)] at e1;clear q0 q1 q2;go_wp2_with fail;obtain ⟨q0,q1,q2⟩:=hq.out;obtain ⟨W10,hW10,hB10,q2',kW,kB,s10⟩:=Zer (.int .i64 (wrap64 (s.v2 + z))) hB9.out (by omega) q2 (St.noLimb _);rw [hW10];replace q0:=kB _ _ _ (by omega) q0;replace q1:=kB _ _ _ (by omega) q1
   have q2'' : Blk W10 (w.heap.size + 1 + 1) 46 (mvS s (Zb9 dir d) 6).cells:=by
    have h:=Zed s (Zb9 dir d) (show 5 < 6 by omega);rw [hzw.out] at h;exact h ▸ q2'
   have hfin:=Za (And.intro q0 (And.intro q1 q2''));replace hB10:=Za hB10;clear hq hW10 hB9 q0 q1 q2 q2' q2'' kW kB e1 e2
   go_roundg 0
   case measure=>omega
   case rel=>exact ⟨6,by omega,by go_num,hB10,hN2,hfin⟩
def calmL (rs : List RX) : Prop:=rs.length <= 10 /\ Znr 3 rs
theorem Zlr (A : Option Addr) (n c : Nat) (rs : List RX) (w : World) (h : MXL w A n c rs) :
    Calls Tryz.prog 20 #[.slice A n c] w fun e w'=>∃ b,e = .returned (.bool b) /\ Below w.heap.size w w' /\ (b = false -> calmL rs):=by
 have hl:=h.1;have hnc:=h.2.1;have hcm:=h.2.2.1;unfold maxLen at hcm;replace h:=Za h;replace hl:=Za hl;go_enter Tryz.func20,Tryz.ntmps20;go_wp2_with fail
 go_loopg [3] n (fun k iv wr=>∃ i : Nat,i + k = n /\ i <= 10 /\ iv = .int .i64 i /\ Hid (∀ a r,a < i -> rs[a]? = some r -> ∀ e ∈ r.es,e.few <= 3 \/ 64 < e.few) /\ Below w.heap.size w wr)
 case atStart=>exact ⟨0,by omega,by omega,rfl,Za (fun a r ha=>by omega),Below.refl _ _⟩
 case round =>
  obtain ⟨w0,rfl⟩ : ∃ x : World,x = wr:=⟨_,rfl⟩;obtain ⟨i,hik,hi10,rfl,hc,hB⟩:=hrel
  by_cases hin : i < n
  case neg =>
   have t1 : decide ((i : Int) < (n : Int)) = false:=decide_eq_false (by omega)
   have hn10 : n <= 10:=by omega
   have hcc : Hid (Znr 3 rs):=Za (fun r hr=>by
    obtain ⟨a,ha,e⟩:=List.getElem_of_mem hr
    exact hc.out a r (by rw [hl.out] at ha;omega) (by rw [List.getElem?_eq_getElem ha,e]))
   have u10 : decide ((10 : Int) < (n : Int)) = false:=decide_eq_false (by omega);go_wp2_with fail;go_ret;exact ⟨_,rfl,hB,fun _=>⟨by rw [hl.out];exact hn10,hcc.out⟩⟩
  have t1 : decide ((i : Int) < (n : Int)) = true:=decide_eq_true (by omega)
  by_cases hi10' : i < 10
  case neg =>
   have t2 : decide ((i : Int) < 10) = false:=decide_eq_false (by omega);have t2' : decide (i < 10) = false:=decide_eq_false (by omega);have u10 : decide ((10 : Int) < (n : Int)) = true:=decide_eq_true (by omega);go_wp2_with fail;go_ret;exact ⟨_,rfl,hB,fun hf=>absurd hf (by decide)⟩
  have t2 : decide ((i : Int) < 10) = true:=decide_eq_true (by omega);have t2' : decide (i < 10) = true:=decide_eq_true (by omega);obtain ⟨gk',rfl⟩ : ∃ j,gk = j + 1:=⟨gk - 1,by omega⟩
  obtain rfl : gk' = n - (i + 1):=by omega
  have bi : (i : Int) < (n : Int):=by omega
  obtain ⟨g,o,⟨rA,rn,rc,es⟩,rfl,hr,k0,hF⟩:=(h.out.below hB).at_ hin;simp only at k0 hF;have hrl:=Nat.le_trans hF.2.1 hF.2.2.1;unfold maxLen at hrl;have hes : Hid (es.length = rn):=Za hF.1;have hrowF:=Za hF;replace hr:=Za hr;clear hF
  by_cases h10 : 10 < rn
  ·have u10 : decide ((10 : Int) < (rn : Int)) = true:=decide_eq_true (by omega)
   go_wp2_with fail;go_ret;exact ⟨_,rfl,hB,fun hf=>absurd hf (by decide)⟩
  have u10 : decide ((10 : Int) < (rn : Int)) = false:=decide_eq_false (by omega);go_wp2_with fail
  go_loopg [4] rn (fun k iv wr=>∃ j : Nat,j + k = rn /\ iv = .int .i64 j /\ Hid (∀ a e,a < j -> es[a]? = some e -> e.few <= 3 \/ 64 < e.few) /\ Below w0.heap.size w0 wr)
  case atStart=>exact ⟨0,by omega,rfl,Za (fun a e ha=>by omega),Below.refl _ _⟩
  case round =>
   obtain ⟨wx,rfl⟩ : ∃ x : World,x = wr:=⟨_,rfl⟩;obtain ⟨j,hjk,rfl,hce,hB2⟩:=hrel;have k1:=Zc hB2 k0;have hBx:=Za (hB.trans (hB2.mono hB.size))
   cases gk with
   | zero =>
    obtain rfl : rn = j:=by omega
    have t3 : decide ((rn : Int) < (rn : Int)) = false:=by simp
    have hc2 : Hid (∀ a x,a < i + 1 -> rs[a]? = some x -> ∀ e ∈ x.es,e.few <= 3 \/ 64 < e.few):=Za (fun a x ha hx=>by
     by_cases he : a = i
     ·subst he
      rw [hr.out] at hx
      cases hx
      intro e he;obtain ⟨t,ht,hte⟩:=List.getElem_of_mem he;exact hce.out t e (by rw [hes.out] at ht;exact ht) (by rw [List.getElem?_eq_getElem ht,hte])
     ·exact hc.out a x (by omega) hx)
    go_wp2_with fail
    go_roundg (n - (i + 1))
    case measure=>omega
    case rel=>exact ⟨i + 1,by omega,by omega,by go_num,hc2,hBx.out⟩
   | succ gk' =>
    obtain rfl : gk' = rn - (j + 1):=by omega
    have hjn : j < rn:=by omega
    have t3 : decide ((j : Int) < (rn : Int)) = true:=decide_eq_true (by omega)
    have bj : (j : Int) < (rn : Int):=by omega
    obtain ⟨g2,o2,e,hA2,hee,⟨c0,c1,c2,c3⟩,hLa,hLb⟩:=(hrowF.out.below hB2).at_ hjn;rw [hA2] at k1;replace hA2:=Za hA2;have hn1:=Nat.le_trans hLa.2.1 hLa.2.2.1;have hm1:=Nat.le_trans hLb.2.1 hLb.2.2.1;have hFw:=Za (fun W1=>Zpx e.na e.nb e.A e.B e.n e.c e.m e.d W1 hn1 hm1);obtain ⟨f,hf⟩ : ∃ f,max e.n e.m = f:=⟨_,rfl⟩
    have hff : f <= 9223372036854775807:=by unfold maxLen at hn1 hm1;omega
    rw [hf] at hFw;have hfe : Hid (e.few = f):=Za hf;replace hee:=Za hee;replace hf:=Za hf;clear hLa hLb hn1 hm1;go_wp2_with fail;refine (hFw.out _).mono ?_;rintro e2 w5 ⟨rfl,hb5⟩;have hB5:=hB2.trans (hb5.mono hB2.size);have hB6:=Za (hBx.out.trans (hb5.mono hBx.out.size));clear c0 c1 c2 c3 k1
    by_cases f4 : 3 < f
    ·have x4 : decide ((3 : Int) < (f : Int)) = true:=decide_eq_true (by omega)
     by_cases f64 : f <= 64
     ·have x64 : decide ((f : Int) <= 64) = true:=decide_eq_true (by omega)
      go_wp2_with fail;go_ret;exact ⟨_,rfl,hB6.out,fun hf=>absurd hf (by decide)⟩
     have x64 : decide ((f : Int) <= 64) = false:=decide_eq_false (by omega)
     by_cases f70 : 70 < f
     ·have x70 : decide ((70 : Int) < (f : Int)) = true:=decide_eq_true (by omega)
      go_wp2_with fail;go_ret;exact ⟨_,rfl,hB6.out,fun hf=>absurd hf (by decide)⟩
     have x70 : decide ((70 : Int) < (f : Int)) = false:=decide_eq_false (by omega)
     have hce2 : Hid (∀ a e,a < j + 1 -> es[a]? = some e -> e.few <= 3 \/ 64 < e.few):=Za (fun a x ha hx=>by
      by_cases he : a = j
      ·subst he
       rw [hee.out] at hx
       cases hx
       rw [hfe.out];omega
      ·exact hce.out a x (by omega) hx)
     go_wp2_with fail
     go_roundg (rn - (j + 1))
     case measure=>omega
     case rel=>exact ⟨j + 1,by omega,by go_num,hce2,hB5⟩
    ·have x4 : decide ((3 : Int) < (f : Int)) = false:=decide_eq_false (by omega)
     have x70 : decide ((70 : Int) < (f : Int)) = false:=decide_eq_false (by omega)
     have hce2 : Hid (∀ a e,a < j + 1 -> es[a]? = some e -> e.few <= 3 \/ 64 < e.few):=Za (fun a x ha hx=>by
      by_cases he : a = j
      ·subst he
       rw [hee.out] at hx
       cases hx
       rw [hfe.out];omega
      ·exact hce.out a x (by omega) hx)
     go_wp2_with fail
     go_roundg (rn - (j + 1))
     case measure=>omega
     case rel=>exact ⟨j + 1,by omega,by go_num,hce2,hB5⟩
end Go.Proofs.YtaioanjcjijckaaGreat
