/- The reference of polynomials: Ints. The laws of layer 4: -/
import Derived.Lib.SliceRun
import Derived.BigQuiet
import Derived.Deep.QuietTactic
import Derived.Defers
import Derived.Recover
import Derived.Test.YthappeninglakaaZq17
import Derived.Test.YthappeninglakaaZq18
import Derived.Test.YthappeninglakaaZq13
import Derived.Test.YthappeninglakaaZq12
set_option maxRecDepth 100000
set_option maxHeartbeats 1000000
set_option linter.unusedSimpArgs false
set_option linter.unusedVariables false
namespace Go.Proofs.Ythappeninglakaa
open Go.RowKit
attribute [local go_sem] Zj
theorem Zod (A : Option Addr) (n c : Nat) (xs : List Int) (w : World) (h : PolyL w A n c xs) (hn : n <= 900) :
    Calls Try.prog 31 #[.slice A n c] w fun e w'=>Below w.heap.size w w' /\ ∃ v,e = .returned v /\ OwnP 26 w' w.heap.size v xs:=by
 obtain ⟨iw,hi,hz0,hz1,hz2⟩:=info_parts Zfm;obtain ⟨es,h,hxs,hok⟩:=h;have hel:=h.len
 have hnil : ∀ (W : World) (a : Option Addr),(binOp .eql 22 (.slice a n c) (.slice none 0 0)).run Try.prog W = .ok (.bool a.isNone) W:=fun W a=>Lib.run_eql_slice_nil W _ _ a n c 0 0 Try.underlying22
 cases A with
 | none =>
  have hn0 : n = 0:=by
   rcases Nat.eq_zero_or_pos n with h0 | h0
   ·exact h0
   ·obtain ⟨b,o,e,-⟩:=h.2.2.2.1 h0
    cases e
  have hx0 : xs = []:=by
   rw [<- hxs,List.eq_nil_of_length_eq_zero (hel.trans hn0)];rfl
  subst hn0 hx0;go_enter Try.func31,Try.ntmps31;go_wp2_with fail;go_ret;exact ⟨Below.refl _ _,_,rfl,OwnP.nil _ _ _⟩
 | some p =>
  have hfs : Hid (∀ e ∈ es,Lim (w.alloc (.cells #[] 26)) e.A e.n e.c e.l /\ e.ok = true):=fun e he=>⟨(h.2.2.2.2 e he).alloc _,hok e he⟩
  replace hxs:=Zb hxs;replace hok:=Zb hok;have hr:=Zb h;clear h;go_enter Try.func31,Try.ntmps31;go_wp2_with (at_builtin;refine Zaa _ rfl (.tmp 5) (.tmp 6) 22 rfl w.heap.size 26 iw Try.underlying22 hi hz0 hz1 hz2 _ _ rfl (OwnP.empty _ _) _ _ n c es rfl (by exact (hr.out.alloc _).reads) hel hfs.out (by simp;omega) (by simp) ?_;intro v1 w1 hown1 hg1 hk1);go_ret;rw [List.nil_append,hxs.out] at hown1
  exact ⟨((Below.refl w.heap.size w).alloc (Nat.le_refl _) _).grown hg1 (by simp) (fun j hj=>by
   have hj2 : (some w.heap.size : Option Nat) = some j:=hj
   injection hj2 with hj3
   omega),_,rfl,hown1⟩
theorem OwnP.pown {t : TypeId} {w : World} {base : Nat} {v : Value} {xs : List Int} (h : OwnP t w base v xs) : (v = .slice none 0 0 /\ xs = []) \/ ∃ g c zs,v = .slice (some ⟨g,0,none⟩) xs.length c /\ base <= g /\ xs.length <= c /\ c <= maxLen /\ POwn t w g (xs ++ zs):=by
 obtain ⟨es,h1,h2,rfl⟩:=h
 rcases h1 with ⟨rfl,rfl⟩ | ⟨g,sp,rfl,h4,h5,h6⟩
 ·exact .inl ⟨rfl,rfl⟩
 ·refine .inr ⟨g,_,List.replicate sp 0,by rw [List.length_map],h4,by rw [List.length_map];omega,h5,es ++ List.replicate sp Zao,h6,fun e he=>?_,?_⟩
  ·rcases List.mem_append.1 he with he | he
   ·exact h2 e he
   ·rw [(List.mem_replicate.1 he).2];exact ⟨Lim.nil _ _ _ (Nat.zero_le _),rfl⟩
  ·rw [List.map_append];congr 1;simp [Zao,WE.num,sg,val]
def Zfr (a b : Int) : Int:=(Nat.gcd a.natAbs b.natAbs : Nat)
def Zcn (p : List Int) : Nat -> Int
 | 0=>0
 | k + 1=>Zfr (Zcn p k) (p[k]?.getD 0)
def Zaf (p : List Int) : Int:=Zcn p p.length
def signP (p : List Int) : Int:=if p[p.length - 1]?.getD 0 < 0 then -Zaf p else Zaf p
def Zh (p : List Int) : List Int:=p.map (fun a=>Int.fdiv a (signP p))
def Zbe (quot rest q : List Int) : List Int:=
 (quot.map (· * q[q.length - 1]?.getD 0)).set (rest.length - q.length) (quot[rest.length - q.length]?.getD 0 * q[q.length - 1]?.getD 0 + rest[rest.length - 1]?.getD 0)
def Zaw (rest q : List Int) : List Int:=
 (List.range rest.length).map fun i=>rest[i]?.getD 0 * q[q.length - 1]?.getD 0 - (if rest.length - q.length <= i then q[i - (rest.length - q.length)]?.getD 0 * rest[rest.length - 1]?.getD 0 else 0)
def Zbs (quot rest q : List Int) : Int:=Zfr (Zaf (Zaw rest q)) (Zaf (Zbe quot rest q))
def byG (l : List Int) (g : Int) : List Int:=l.map (fun a=>Int.fdiv a g)
def Zec (q : List Int) : Nat -> List Int -> List Int -> List Int × List Int
 | 0,quot,rest=>(quot,Zf rest)
 | k + 1,quot,rest=>if (Zf rest).length < q.length then (quot,Zf rest) else
     Zec q k (byG (Zbe quot (Zf rest) q) (Zbs quot (Zf rest) q)) (byG (Zaw (Zf rest) q) (Zbs quot (Zf rest) q))
def Zan (p q : List Int) : List Int × List Int:=Zec q p.length (List.replicate (p.length + 1 - q.length) 0) p
def Zet : Nat -> List Int -> List Int -> List Int
 | 0,p,_=>p
 | k + 1,p,q=>if q = [] then p else Zet k q (Zh (Zan p q).2)
def Za1 (p q : List Int) : List Int:=Zet ((Zh q).length + 1) (Zh p) (Zh q)
def Zbl (p : List Int) : List Int:=Zh (Zf (Zan p (Za1 p (Zaj p))).1)
def smallP (p : List Int) : Bool:=p.all fun a=>decide (a.natAbs < pw 1000)
def Zdm (q : List Int) : Nat -> List Int -> List Int -> Bool
 | 0,quot,rest=>smallP quot && smallP rest && decide ((Zf rest).length < q.length)
 | k + 1,quot,rest=>smallP quot && smallP rest && (if (Zf rest).length < q.length then true else
     Zdm q k (byG (Zbe quot (Zf rest) q) (Zbs quot (Zf rest) q)) (byG (Zaw (Zf rest) q) (Zbs quot (Zf rest) q)))
def Zb8 (p q : List Int) : Bool:=smallP q && decide (0 < q.length) && decide (q[q.length - 1]?.getD 0 ≠ 0) && Zdm q p.length (List.replicate (p.length + 1 - q.length) 0) p
def Zbz : Nat -> List Int -> List Int -> Bool
 | 0,_,q=>decide (q = [])
 | k + 1,p,q=>if q = [] then true else Zb8 p q && Zbz k q (Zh (Zan p q).2)
theorem Neg_ok (neg : Bool) (A : Option Addr) (n c : Nat) (z : Int) (w : World) (hz : Wd w neg A n c z) :
    Calls Try.prog 39 #[.agg #[.bool neg,.slice A n c]] w (ResW w (-z)):=by
 have hL:=hz.lim;have hn:=hz.2.1
 have hW : ∀ X Y t,WL (((w.alloc X).alloc Y).alloc (.cells #[.bool neg,.slice A n c] t)) (some ⟨w.heap.size + 1 + 1,0,none⟩) 1 1 [⟨neg,A,n,c,digits z.natAbs⟩]:=fun X Y t=>by
  have:=WL.one (neg:=neg) ((hL.alloc X).alloc Y) t;simp only [World.size_alloc] at this;exact this
 have hW:=Zb hW
 have hB0 : ∀ X Y Z : Obj,Below w.heap.size w (((w.alloc X).alloc Y).alloc Z):=fun X Y Z=>(((Below.refl w.heap.size w).alloc (Nat.le_refl _) _).alloc (by simp) _).alloc (by simp;omega) _
 have hB0:=Zb hB0;have hgood : Hid (okW neg (digits z.natAbs) = true):=hz.ok;have hsg:=Zb hz.sgEq;clear hz;go_enter Try.func39,Try.ntmps39;go_wp2_with fail;refine (Zdl (hW.out _ _ _) (by have:=hgood.out;simp [WE.ok,this])).mono ?_;rintro e w1 ⟨rfl,hb1⟩;obtain ⟨hc1,hf1⟩:=Zca hb1
 have hz1 : w.heap.size + 1 + 1 < w1.heap.size:=by have:=hb1.size;simp at this;omega
 have hB1 : Below w.heap.size w w1:=(hB0.out _ _ _).trans (hb1.mono (by simp;omega))
 have g0 : w1.cell? ⟨w.heap.size,0,none⟩ = some (.bool neg):=by simp [hc1,go_sem]
 have g1 : w1.cell? ⟨w.heap.size,1,none⟩ = some (.slice A n c):=by simp [hc1,go_sem]
 have g7 : Blk w1 (w.heap.size + 1) 26 #[.bool false,.slice none 0 0]:=by
  refine Zd hb1 (Blk.alloc ?_ _);have:=Blk.new (w.alloc (.cells #[.bool neg,.slice A n c] 26)) 26 #[.bool false,.slice none 0 0];simp only [World.size_alloc] at this;exact this
 have g3:=g7.cell 0;have g4:=g7.cell 1;have g5:=g7.frozen 0;have g6:=g7.frozen 1
 simp at g3 g4
 have hL1:=hL.below hB1;clear hc1 hf1;go_wp2_with fail
 go_region_held3 (fun w'=>w'.cell? ⟨w.heap.size,0,none⟩ = some (.bool neg) /\ w'.cell? ⟨w.heap.size,1,none⟩ = some (.slice A n c))
  (((try dsimp only);(repeat' apply And.intro);all_goals (first | go_keep | (simp [*,go_sem];done))))
  (first
   | (go_at_call 56;refine (Zgh _ _ _ _ _ (by exact hL1) (by omega)).mono ?_;rintro e w2 ⟨v2,rfl,hO2,hb2⟩;obtain ⟨A2,c2,hv2,hL2⟩:=hO2.lim;subst hv2;clear hO2;have k0:=Za hb2 g0;have k1:=Za hb2 g1;have k3:=Za hb2 g3;have k4:=Za hb2 g4;have k5:=Zi hb2 g3 g5;have k6:=Zi hb2 g4 g6;have k7:=Zd hb2 g7)
   | (go_at_call 53;refine (Zbk _ _ _ _ _ _ (by exact hL2)).mono ?_;rintro e w3 ⟨hb3,neg3,A3,n3,c3,code3,rfl,hR3⟩;have m0:=Za hb3 k0;have m1:=Za hb3 k1;have m3:=Za hb3 k3;have m4:=Za hb3 k4;have m5:=Zi hb3 k3 k5;have m6:=Zi hb3 k4 k6;have m7:=Zd hb3 k7))
 have hB3 : Below w.heap.size w w3:=(hB1.trans ((Zm hb2).mono hB1.size)).trans (hb3.mono (Nat.le_trans hB1.size (Zm hb2).size))
 have HZ : sg (!neg) (val (digits z.natAbs)) = -z:=by
  have h1:=hsg.out;rw [Zpi,h1]
 go_wp2
 refine bodyPost_ret (v:=.tuple #[.agg #[.bool neg3,.slice A3 n3 c3],.int .i64 code3]) (by simp [results,Try.results39,go_sem,m3,m4]) rfl ?_;exact ResW.box (HZ ▸ hR3) hB3 (by omega) m7
theorem Zqo {a b : Nat} {p : Nat} (ha : a < p) (hb : b < p) : Nat.gcd a b < p:=by
 rcases Nat.eq_zero_or_pos a with rfl | h
 ·rw [Nat.gcd_zero_left];exact hb
 ·exact Nat.lt_of_le_of_lt (Nat.le_of_dvd h (Nat.gcd_dvd_left a b)) ha
def Zi7 (a b : Int) : Int:=if b < 0 then -(Nat.gcd a.natAbs b.natAbs : Nat) else (Nat.gcd a.natAbs b.natAbs : Nat)
theorem redG_ne {a b : Int} (h : b ≠ 0) : Zi7 a b ≠ 0:=by
 have : 0 < Nat.gcd a.natAbs b.natAbs:=Nat.gcd_pos_of_pos_right _ (by omega);unfold Zi7;split <;> omega
theorem Zho (a b : Int) : ((Nat.gcd a.natAbs b.natAbs : Nat) : Int) ∣ a:=by
 rw [<- Int.dvd_natAbs];exact Int.ofNat_dvd.2 (Nat.gcd_dvd_left _ _)
theorem Zkt (a b : Int) : ((Nat.gcd a.natAbs b.natAbs : Nat) : Int) ∣ b:=by
 rw [<- Int.dvd_natAbs];exact Int.ofNat_dvd.2 (Nat.gcd_dvd_right _ _)
theorem Zqz (a b : Int) : Zi7 a b ∣ a:=by
 unfold Zi7;split
 ·exact Int.neg_dvd.2 (Zho a b)
 ·exact Zho a b
theorem Zq3 (a b : Int) : Zi7 a b ∣ b:=by
 unfold Zi7;split
 ·exact Int.neg_dvd.2 (Zkt a b)
 ·exact Zkt a b
theorem Zob (a b : Int) : Int.gcd b a = Nat.gcd a.natAbs b.natAbs:=by unfold Int.gcd;exact Nat.gcd_comm _ _
theorem red_num {a b : Int} (h : b ≠ 0) : Int.fdiv a (Zi7 a b) = (Rat.divInt a b).num:=by
 rw [Int.fdiv_eq_ediv_of_dvd (Zqz a b),Rat.num_divInt,Zob];unfold Zi7;obtain ⟨k,hk⟩:=Zho a b
 have hg : ((Nat.gcd a.natAbs b.natAbs : Nat) : Int) ≠ 0:=by
  have : 0 < Nat.gcd a.natAbs b.natAbs:=Nat.gcd_pos_of_pos_right _ (by omega);omega
 split
 ·rename_i hb
  rw [Int.ediv_neg,Int.sign_eq_neg_one_of_neg hb,show (-1 : Int) * a = -a by omega,Int.neg_ediv_of_dvd (Zho a b)]
 ·rw [Int.sign_eq_one_of_pos (by omega),Int.one_mul]
theorem red_den {a b : Int} (h : b ≠ 0) : Int.fdiv b (Zi7 a b) = ((Rat.divInt a b).den : Nat):=by
 rw [Int.fdiv_eq_ediv_of_dvd (Zq3 a b),Rat.den_divInt,Zob,if_neg h];unfold Zi7
 split
 ·rename_i hb
  rw [Int.ediv_neg,<- Int.neg_ediv_of_dvd (Zkt a b),show -b = ((b.natAbs : Nat) : Int) by omega,Int.natCast_ediv]
 ·rw [Int.natCast_ediv,show ((b.natAbs : Nat) : Int) = b by omega]
def Fr (w : World) (na : Bool) (A : Option Addr) (n c : Nat) (nb : Bool) (B : Option Addr) (m d : Nat) (r : Rat) : Prop:=Wd w na A n c r.num /\ Wd w nb B m d (r.den : Nat)
theorem Fr.below {w w' : World} {na : Bool} {A : Option Addr} {n c : Nat} {nb : Bool} {B : Option Addr} {m d : Nat} {r : Rat} (h : Fr w na A n c nb B m d r) (hb : Below w.heap.size w w') : Fr w' na A n c nb B m d r:=⟨h.1.below hb,h.2.below hb⟩
def FracW (w : World) (r : Rat) (e : Ending) (w' : World) : Prop:=
 Below w.heap.size w w' /\ ∃ na A n c nb B m d,e = .returned (.agg #[.bool na,.slice A n c,.bool nb,.slice B m d]) /\ Fr w' na A n c nb B m d r
def Zn0 (w : World) (r : Rat) (e : Ending) (w' : World) : Prop:=
 Below w.heap.size w w' /\ ∃ na A n c nb B m d,e = .returned (.tuple #[.agg #[.bool na,.slice A n c,.bool nb,.slice B m d],.int .i64 0]) /\ Fr w' na A n c nb B m d r
def StepN (w W : World) (g : Nat) : Prop:=
 (∀ na A n c z,Wd w na A n c z -> Wd W na A n c z) /\ (∀ g' t' cs',g' ≠ g -> Blk w g' t' cs' -> Blk W g' t' cs') /\ W.heap.size = w.heap.size
theorem NoLimb.box4 (b : Bool) (A : Option Addr) (n c : Nat) (b' : Bool) (A' : Option Addr) (n' c' : Nat) : NoLimb #[.bool b,.slice A n c,.bool b',.slice A' n' c']:=fun i x=>by
 rcases i with _ | _ | _ | _ | i <;> simp
theorem Zu {t : TypeId} {B : Nat} {w0 w : World} {g : Nat} {b0 : Bool} {A0 : Option Addr} {n0 c0 : Nat} (neg : Bool) (A : Option Addr) (n c : Nat) (hB : Below B w0 w) (hs : B <= g) (hb : Blk w g t #[.bool b0,.slice A0 n0 c0]) :
    ∃ W,(w.setCell ⟨g,0,none⟩ (.bool neg)).setCell ⟨g,1,none⟩ (.slice A n c) = W /\ Below B w0 W /\ Blk W g t #[.bool neg,.slice A n c] /\ StepN w W g:=by
 have hb1 : Blk (w.setCell ⟨g,0,none⟩ (.bool neg)) g t #[.bool neg,.slice A0 n0 c0]:=hb.set_ 0 (.bool neg);have hb2 : Blk ((w.setCell ⟨g,0,none⟩ (.bool neg)).setCell ⟨g,1,none⟩ (.slice A n c)) g t #[.bool neg,.slice A n c]:=hb1.set_ 1 (.slice A n c);refine ⟨_,rfl,(hB.setCell (p:=⟨g,0,none⟩) hs _).setCell (p:=⟨g,1,none⟩) hs _,hb2,fun na A' n' c' z hW=>⟨hW.1,hW.2.1,(hW.2.2.set_box hb (NoLimb.box _ _ _ _) _ _).set_box hb1 (NoLimb.box _ _ _ _) _ _⟩,fun g' t' cs' hg h=>(h.far hg _).far hg _,by simp⟩
theorem Zdp {t : TypeId} {B : Nat} {w0 w : World} {g : Nat} {a0 : Bool} {A0 : Option Addr} {n0 c0 : Nat} {b0 : Bool} {B0 : Option Addr} {m0 d0 : Nat} (na : Bool) (A : Option Addr) (n c : Nat) (nb : Bool) (B' : Option Addr) (m d : Nat) (hB : Below B w0 w) (hs : B <= g) (hb : Blk w g t #[.bool a0,.slice A0 n0 c0,.bool b0,.slice B0 m0 d0]) :
    ∃ W,(((w.setCell ⟨g,0,none⟩ (.bool na)).setCell ⟨g,1,none⟩ (.slice A n c)).setCell ⟨g,2,none⟩ (.bool nb)).setCell ⟨g,3,none⟩ (.slice B' m d) = W /\ Below B w0 W /\ Blk W g t #[.bool na,.slice A n c,.bool nb,.slice B' m d] /\ StepN w W g:=by
 have hb1 : Blk (w.setCell ⟨g,0,none⟩ (.bool na)) g t #[.bool na,.slice A0 n0 c0,.bool b0,.slice B0 m0 d0]:=hb.set_ 0 (.bool na);have hb2 : Blk ((w.setCell ⟨g,0,none⟩ (.bool na)).setCell ⟨g,1,none⟩ (.slice A n c)) g t #[.bool na,.slice A n c,.bool b0,.slice B0 m0 d0]:=hb1.set_ 1 (.slice A n c);have hb3 : Blk (((w.setCell ⟨g,0,none⟩ (.bool na)).setCell ⟨g,1,none⟩ (.slice A n c)).setCell ⟨g,2,none⟩ (.bool nb)) g t #[.bool na,.slice A n c,.bool nb,.slice B0 m0 d0]:=hb2.set_ 2 (.bool nb);have hb4 : Blk ((((w.setCell ⟨g,0,none⟩ (.bool na)).setCell ⟨g,1,none⟩ (.slice A n c)).setCell ⟨g,2,none⟩ (.bool nb)).setCell ⟨g,3,none⟩ (.slice B' m d)) g t #[.bool na,.slice A n c,.bool nb,.slice B' m d]:=hb3.set_ 3 (.slice B' m d);have hl:=NoLimb.box4;refine ⟨_,rfl,(((hB.setCell (p:=⟨g,0,none⟩) hs _).setCell (p:=⟨g,1,none⟩) hs _).setCell (p:=⟨g,2,none⟩) hs _).setCell (p:=⟨g,3,none⟩) hs _,hb4,fun na A' n' c' z hW=>⟨hW.1,hW.2.1,?_⟩,fun g' t' cs' hg h=>(((h.far hg _).far hg _).far hg _).far hg _,by simp⟩;exact (((hW.2.2.set_box hb (hl _ _ _ _ _ _ _ _) _ _).set_box hb1 (hl _ _ _ _ _ _ _ _) _ _).set_box hb2 (hl _ _ _ _ _ _ _ _) _ _).set_box hb3 (hl _ _ _ _ _ _ _ _) _ _
theorem Blk.two {w : World} {g : Nat} {t : TypeId} {x y : Value} (h : Blk w g t #[x,y]) : w.cell? ⟨g,0,none⟩ = some x /\ w.cell? ⟨g,1,none⟩ = some y /\ w.frozen? ⟨g,0,none⟩ = false /\ w.frozen? ⟨g,1,none⟩ = false:=
 ⟨h.cell 0,h.cell 1,h.frozen 0,h.frozen 1⟩
theorem Blk.four {w : World} {g : Nat} {t : TypeId} {x y z v : Value} (h : Blk w g t #[x,y,z,v]) : w.cell? ⟨g,0,none⟩ = some x /\ w.cell? ⟨g,1,none⟩ = some y /\ w.cell? ⟨g,2,none⟩ = some z /\ w.cell? ⟨g,3,none⟩ = some v /\ w.frozen? ⟨g,0,none⟩ = false /\ w.frozen? ⟨g,1,none⟩ = false /\ w.frozen? ⟨g,2,none⟩ = false /\ w.frozen? ⟨g,3,none⟩ = false:=
 ⟨h.cell 0,h.cell 1,h.cell 2,h.cell 3,h.frozen 0,h.frozen 1,h.frozen 2,h.frozen 3⟩
theorem Z8 {B : Nat} {w0 w : World} (t : TypeId) (cs : Array Value) (hB : Below B w0 w) (hs : B <= w.heap.size) :
    ∃ W,w.alloc (.cells cs t) = W /\ Below B w0 W /\ Blk W w.heap.size t cs /\ (∀ na A n c z,Wd w na A n c z -> Wd W na A n c z) /\ (∀ g' t' cs',Blk w g' t' cs' -> Blk W g' t' cs') /\ W.heap.size = w.heap.size + 1:=
 ⟨_,rfl,hB.alloc hs _,Blk.new _ _ _,fun _ _ _ _ _ h=>h.alloc _,fun _ _ _ h=>h.alloc _,by simp⟩
theorem Ztx (w : World) (t0 : TypeId) (c0 : Array Value) (t1 : TypeId) (c1 : Array Value) :
    ∃ W,(w.alloc (.cells c0 t0)).alloc (.cells c1 t1) = W /\ Below w.heap.size w W /\ (Blk W w.heap.size t0 c0 /\ Blk W (w.heap.size + 1) t1 c1) /\ W.heap.size = w.heap.size + 1 + 1:=by
 refine ⟨_,rfl,((Below.refl w.heap.size w).alloc (Nat.le_refl _) _).alloc (by simp) _,⟨(Blk.new _ _ _).alloc _,?_⟩,by simp⟩;have:=Blk.new (w.alloc (.cells c0 t0)) t1 c1;simp only [World.size_alloc] at this;exact this
theorem Zkc (w : World) (t0 : TypeId) (c0 : Array Value) (t1 : TypeId) (c1 : Array Value) (t2 : TypeId) (c2 : Array Value) :
    ∃ W,((w.alloc (.cells c0 t0)).alloc (.cells c1 t1)).alloc (.cells c2 t2) = W /\ Below w.heap.size w W /\ (Blk W w.heap.size t0 c0 /\ Blk W (w.heap.size + 1) t1 c1 /\ Blk W (w.heap.size + 1 + 1) t2 c2) /\ W.heap.size = w.heap.size + 1 + 1 + 1:=by
 obtain ⟨W,hW,h1,h2,h3⟩:=Ztx w t0 c0 t1 c1;refine ⟨_,rfl,?_,⟨?_,?_,?_⟩,by rw [hW];simp [h3]⟩ <;> rw [hW]
 ·exact h1.alloc (by omega) _
 ·exact h2.1.alloc _
 ·exact h2.2.alloc _
 ·rw [<- h3];exact Blk.new _ _ _
theorem alloc4 (w : World) (t0 : TypeId) (c0 : Array Value) (t1 : TypeId) (c1 : Array Value) (t2 : TypeId) (c2 : Array Value) (t3 : TypeId) (c3 : Array Value) :
    ∃ W,(((w.alloc (.cells c0 t0)).alloc (.cells c1 t1)).alloc (.cells c2 t2)).alloc (.cells c3 t3) = W /\ Below w.heap.size w W /\ (Blk W w.heap.size t0 c0 /\ Blk W (w.heap.size + 1) t1 c1 /\ Blk W (w.heap.size + 1 + 1) t2 c2 /\ Blk W (w.heap.size + 1 + 1 + 1) t3 c3) /\ W.heap.size = w.heap.size + 1 + 1 + 1 + 1:=by
 obtain ⟨W,hW,h1,h2,h3⟩:=Zkc w t0 c0 t1 c1 t2 c2;refine ⟨_,rfl,?_,⟨?_,?_,?_,?_⟩,by rw [hW];simp [h3]⟩ <;> rw [hW]
 ·exact h1.alloc (by omega) _
 ·exact h2.1.alloc _
 ·exact h2.2.1.alloc _
 ·exact h2.2.2.alloc _
 ·rw [<- h3];exact Blk.new _ _ _
end Go.Proofs.Ythappeninglakaa
