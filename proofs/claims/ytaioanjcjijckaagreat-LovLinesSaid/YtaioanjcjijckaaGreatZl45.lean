/- The reference of lov: Line. Rows of Pascal's triangle -/
import Derived.Deep.LoopGhost
import Derived.ProofKit
import Derived.Deep.Slices
import Derived.Deep.Fields
import Derived.ChangeSame
import Derived.Test.YtaioanjcjijckaaGreatProg
import Derived.Test.YtaioanjcjijckaaGreatZl44
set_option maxRecDepth 100000
set_option maxHeartbeats 8000000
set_option linter.unusedSimpArgs false
set_option linter.unusedVariables false
namespace Go.Proofs.YtaioanjcjijckaaGreat
open Go.RowKit
attribute [local go_sem] Zg
def OwnS (w : World) (base : Nat) (v : Value) (ss : List St) : Prop:=w.ownsRow base 46 7 v ss.length (ss.flatMap fun s=>s.cells.toList)
theorem OwnS.below {w w' : World} {base : Nat} {v : Value} {ss : List St} (h : OwnS w base v ss) (hb : Below w.heap.size w w') : OwnS w' base v ss:=World.ownsRow.kept h (Zec hb) (by
 by_cases e : v.ownBlock = none
 ·exact .inl e
 ·exact .inr e)
theorem OwnS.snoc {w : World} {base n : Nat} {v : Value} {ss : List St} {X : St} {xs news : List Value} (h : w.ownsRow base 46 7 v (n + 1) (xs ++ news)) (hn : n = ss.length) (h1 : xs = ss.flatMap fun s=>s.cells.toList) (h2 : news = X.cells.toList) : OwnS w base v (ss ++ [X]):=by
 subst hn h1 h2;unfold OwnS;rw [List.length_append,List.flatMap_append]
 simpa using h
noncomputable def lineU (dir : List Rat) (s : St) (step : Int) (N i : Nat) : List St:=(List.range i).map fun j=>movV s dir (Zb6 N step j)
theorem Zm1 : (Value.agg #[.int .i64 0,.int .i64 0,.int .i64 0,.int .i64 0,.int .i64 0,.int .i64 0,.int .i64 0]).cells.size = 7:=by simp [Value.cells]
theorem Zfr {dir : List Rat} {s : St} {step : Int} {N i : Nat} : (lineU dir s step N i).length = i:=by simp [lineU]
theorem Zoe {dir : List Rat} {s : St} {step : Int} {N i : Nat} : lineU dir s step N (i + 1) = lineU dir s step N i ++ [movV s dir (Zb6 N step i)]:=by
 unfold lineU;rw [List.range_succ,List.map_append];rfl
theorem Zrb (s : St) (A : Option Addr) (n c : Nat) (rs : List RX) (kk step N : Int) (w : World) (h : MXL w A n c rs) (hF : FacC rs) (hf : Znr 3 rs) (hk1 : -9223372036854775808 <= kk) (hk2 : kk <= 9223372036854775807) (hd1 : -9223372036854775808 <= step) (hd2 : step <= 9223372036854775807) (hn1 : -9223372036854775808 <= N) (hn2 : N <= 9223372036854775807) :
    Calls Tryz.prog 22 #[.agg #[.int .i64 s.t,.int .i64 s.p0,.int .i64 s.p1,.int .i64 s.p2,.int .i64 s.v0,.int .i64 s.v1,.int .i64 s.v2],.slice A n c,.int .i64 kk,.int .i64 step,.int .i64 N] w (LinePost rs s kk step N w):=by
 obtain ⟨W0,hW0⟩ : ∃ W,w.alloc (.cells #[.int .i64 s.t,.int .i64 s.p0,.int .i64 s.p1,.int .i64 s.p2,.int .i64 s.v0,.int .i64 s.v1,.int .i64 s.v2] 46) = W:=⟨_,rfl⟩
 have hB0 : Below w.heap.size w W0:=by rw [<- hW0];exact (Below.refl _ _).alloc (Nat.le_refl _) _
 have q0 : Blk W0 w.heap.size 46 #[.int .i64 s.t,.int .i64 s.p0,.int .i64 s.p1,.int .i64 s.p2,.int .i64 s.v0,.int .i64 s.v1,.int .i64 s.v2]:=by rw [<- hW0];exact Blk.new _ _ _
 obtain ⟨E,hE⟩ : ∃ E,stE s = E:=⟨_,rfl⟩;have hCk:=Za (fun W=>Zhr s W);have hDr:=Za (fun W1 (hb : Below w.heap.size w W1)=>Zd8 A n c rs kk W1 (h.below hb) hF hk1 hk2);have hMS:=Za (fun d (h0 : Zb7 rs kk = 0) (ha : -9223372036854775808 <= d) (hb : d <= 9223372036854775807)=>Zk0 (d:=d) h hf h0 ha hb);obtain ⟨c0,c1,c2,c3,c4,c5,c6⟩:=Zaf q0;clear h hF;have hq:=Za q0;clear q0;replace hW0:=Za hW0;replace hB0:=Za hB0;replace hE:=Za hE;go_enter Tryz.func22,Tryz.ntmps22;have hW0':=hW0.out;go_wp2_with fail;clear hW0 hW0';refine (hCk.out W0).mono ?_;rintro e w1 ⟨rfl,hb1⟩;rw [hE.out];have q0:=Zb hb1 hq.out;have hB1:=hB0.out.trans (hb1.mono hB0.out.size);clear hq hB0 hb1 c0 c1 c2 c3 c4 c5 c6;obtain ⟨c0,c1,c2,c3,c4,c5,c6⟩:=Zaf q0;have hq:=Za q0;clear q0;replace hB1:=Za hB1
 by_cases h0 : E = 0
 case neg =>
  have t0 : (E == 0) = false:=by simpa using h0
  have t0' : decide (E = 0) = false:=by simpa using h0
  have t0'' : (E != 0) = true:=by rw [bne,t0];rfl
  have hM:=Za (Zpv (rs:=rs) (k:=kk) (step:=step) (n:=N) hE.out h0);replace h0:=Za h0;go_wp2_with fail;refine (hCk.out w1).mono ?_;rintro e w2 ⟨rfl,hb2⟩;rw [hE.out];have hB2:=hB1.out.trans (hb2.mono hB1.out.size);clear hb2 hB1 hq;go_wp2_with fail;go_returns;exact ⟨hB2,.inr ⟨by rw [hM.out];exact h0.out,by rw [hM.out];(try rfl)⟩⟩
 subst h0;go_wp2_with fail;refine (hDr.out w1 hB1.out).mono ?_;rintro e w2 ⟨hb2,hcase⟩;have q0:=Zb hb2 hq.out;have hB2:=hB1.out.trans (hb2.mono hB1.out.size);clear hq hB1 hb2 c0 c1 c2 c3 c4 c5 c6;obtain ⟨c0,c1,c2,c3,c4,c5,c6⟩:=Zaf q0;have hq:=Za q0;clear q0
 rcases hcase with ⟨hd0,A2,cA2,rfl,hFL⟩ | ⟨hdn,rfl⟩
 case inr =>
  obtain ⟨D,hD⟩ : ∃ D,Zb7 rs kk = D:=⟨_,rfl⟩;rw [hD] at hdn;rw [hD]
  have t0 : (D == 0) = false:=by simpa using hdn
  have t0' : decide (D = 0) = false:=by simpa using hdn
  have t0'' : (D != 0) = true:=by rw [bne,t0];rfl
  have hM:=Za (Zmo (step:=step) (n:=N) hE.out hD hdn);replace hdn:=Za hdn;replace hD:=Za hD;go_wp2_with fail;go_returns;exact ⟨hB2,.inr ⟨by rw [hM.out];exact hdn.out,by rw [hM.out];(try rfl)⟩⟩
 have hcap:=hFL.cap;unfold maxLen at hcap
 by_cases harg : 1 <= step /\ step <= 1125899906842624 /\ 0 <= N /\ N <= 20
 case neg =>
  have hM:=Za (Znb (n:=N) (step:=step) hE.out hd0 harg);clear hFL hd0
  by_cases g1 : step < 1
  ·have t1 : decide (step < 1) = true:=decide_eq_true g1
   clear harg;go_wp2_with fail;go_returns;exact ⟨hB2,.inr ⟨by rw [hM.out];decide,by rw [hM.out];(try rfl)⟩⟩
  have t1 : decide (step < 1) = false:=decide_eq_false g1
  by_cases g2 : 1125899906842624 < step
  ·have t2 : decide (1125899906842624 < step) = true:=decide_eq_true g2
   clear harg;go_wp2_with fail;go_returns;exact ⟨hB2,.inr ⟨by rw [hM.out];decide,by rw [hM.out];(try rfl)⟩⟩
  have t2 : decide (1125899906842624 < step) = false:=decide_eq_false g2
  by_cases g3 : N < 0
  ·have t3 : decide (N < 0) = true:=decide_eq_true g3
   clear harg;go_wp2_with fail;go_returns;exact ⟨hB2,.inr ⟨by rw [hM.out];decide,by rw [hM.out];(try rfl)⟩⟩
  have t3 : decide (N < 0) = false:=decide_eq_false g3;have t4 : decide (20 < N) = true:=decide_eq_true (by omega);clear harg;go_wp2_with fail;go_returns;exact ⟨hB2,.inr ⟨by rw [hM.out];decide,by rw [hM.out];(try rfl)⟩⟩
 have hM:=Za (Zn3 (n:=N) (step:=step) hE.out hd0 harg);obtain ⟨g1,g2,g3,g4⟩:=harg;obtain ⟨m,hn⟩ : ∃ m : Nat,N = m:=⟨N.toNat,by omega⟩;subst hn;rw [Int.toNat_natCast] at hM
 have hn20 : m <= 20:=by omega
 have t1 : decide (step < 1) = false:=decide_eq_false (by omega);have t2 : decide (1125899906842624 < step) = false:=decide_eq_false (by omega);have t3 : decide ((m : Int) < 0) = false:=decide_eq_false (by omega);have t4 : decide (20 < (m : Int)) = false:=decide_eq_false (by omega);have t4' : decide (20 < m) = false:=decide_eq_false (by omega);have hneg : IntKind.i64.wrap (-(m : Int)) = -(m : Int):=IntWalk.i64_in _ (by omega)
 have hMS2 : Hid (∀ k,k <= 2 * m -> Zjo (Zf4 rs kk) (Zb6 m step k)):=Za (fun k hk=>by
  obtain ⟨b1,b2⟩:=Zei hn20 g1 g2 hk
  exact hMS.out _ hd0 (by omega) (by omega))
 obtain ⟨dir,hdir⟩ : ∃ dir,Zf4 rs kk = dir:=⟨_,rfl⟩;replace hFL : FL w2 A2 6 cA2 (Zf4 rs kk):=hFL;rw [hdir] at hFL hMS2 hM;replace hdir:=Za hdir;replace hd0:=Za hd0;replace hFL:=Za hFL;obtain ⟨iS,hi,hz0,hz1,hz2⟩:=info_parts Ztn;clear hDr hCk hMS;go_wp2_with fail
 go_loopg [14,15] (2 * m + 1) (fun t rv jv wr=>∃ (i : Nat) (J : Int),i + t = 2 * m + 1 /\ J = (i : Int) - m /\ jv = .int .i64 J /\ Hid (OwnS wr w2.heap.size rv (lineU dir s step m i)) /\ Hid (∀ j,j < i -> movE s dir (Zb6 m step j) = 0) /\ Hid (Below w2.heap.size w2 wr))
 case atStart=>exact ⟨0,-(m : Int),by omega,by omega,rfl,Za (World.ownsRow_nil _ _ _ _),Za (fun j hj=>by omega),Za (Below.refl _ _)⟩
 case round =>
  clear c0 c1 c2 c3 c4 c5 c6;obtain ⟨wi,rfl⟩ : ∃ x : World,x = wr:=⟨_,rfl⟩;obtain ⟨i,J,hik,hJ,rfl,hO,hz,hBi⟩:=hrel;have hBwi : Below w.heap.size w wi:=hB2.trans (hBi.out.mono hB2.size);have hBis:=hBi.out.size;have qi:=Zb hBi.out hq.out;obtain ⟨c0,c1,c2,c3,c4,c5,c6⟩:=Zaf qi;have hFi:=Za (hFL.out.below hBi.out);clear qi
  cases gk with
  | zero =>
   obtain rfl : i = 2 * m + 1:=by omega
   have t5 : decide (J <= (m : Int)) = false:=decide_eq_false (by omega);have hEok : Hid (lineE rs s kk step m = 0):=Za (by rw [hM.out];exact Zm8 (fun j hj=>hz.out j (by omega)));obtain ⟨A5,c5,rfl,hSL⟩:=Zr8 (ss:=lineU dir s step m (2 * m + 1)) hO.out (by rw [Zfr];omega);rw [Zfr] at hSL ⊢;replace hSL:=Za hSL;clear hO;replace hJ:=Za hJ;go_wp2_with fail;go_returns;refine ⟨hBwi,.inl ⟨hEok.out,_,_,rfl,?_⟩⟩;rw [Int.toNat_natCast,hdir.out];exact hSL.out
  | succ t' =>
   have him : i <= 2 * m:=by omega
   have t5 : decide (J <= (m : Int)) = true:=decide_eq_true (by omega);obtain ⟨b1,b2⟩:=Zei hn20 g1 g2 him
   have hmul : IntKind.i64.wrap (J * step) = Zb6 m step i:=by rw [hJ];exact IntWalk.i64_in _ (by unfold Zb6 at b1 b2;omega)
   have hJ1 : IntKind.i64.wrap (J + 1) = ((i + 1 : Nat) : Int) - m:=by rw [IntWalk.i64_in _ (by omega)];omega
   replace hJ:=Za hJ;replace hJ1:=Za hJ1;go_wp2_with fail;refine (Zql s A2 cA2 dir _ wi hFi.out (hMS2.out i him) (by omega) (by omega)).mono ?_;rintro e w5 ⟨S,b,he,hb1,hb0,hb5⟩;replace he : e = .returned (.tuple #[.agg #[.int .i64 S.t,.int .i64 S.p0,.int .i64 S.p1,.int .i64 S.p2,.int .i64 S.v0,.int .i64 S.v1,.int .i64 S.v2],.bool b]):=he;subst he;obtain ⟨V,hV⟩ : ∃ W,w5.alloc (.cells #[.int .i64 S.t,.int .i64 S.p0,.int .i64 S.p1,.int .i64 S.p2,.int .i64 S.v0,.int .i64 S.v1,.int .i64 S.v2] 46) = W:=⟨_,rfl⟩
   have hbV : Below w5.heap.size w5 V:=by rw [<- hV];exact (Below.refl _ _).alloc (Nat.le_refl _) _
   have qS : Blk V w5.heap.size 46 #[.int .i64 S.t,.int .i64 S.p0,.int .i64 S.p1,.int .i64 S.p2,.int .i64 S.v0,.int .i64 S.v1,.int .i64 S.v2]:=by rw [<- hV];exact Blk.new _ _ _
   have hbi : Below wi.heap.size wi V:=hb5.trans (hbV.mono hb5.size);have hO5:=hO.out.below hbi;have hB5:=hBi.out.trans (hbi.mono hBis);have hBw5:=hBwi.trans (hbi.mono hBwi.size);have hs5:=hB5.size;clear c0 c1 c2 c3 c4 c5 c6 hb5 hbV hbi hO hBi hFi hBwi hBis;obtain ⟨c0,c1,c2,c3,c4,c5,c6⟩:=Zaf qS;clear qS
   cases b with
   | false =>
    have hEb : Hid (lineE rs s kk step m = 24):=Za (by rw [hM.out];exact Zk6 him (by rw [(hb0 rfl).1];decide));clear hb0 hb1 hO5;go_wp2_with fail;go_returns;exact ⟨hBw5,.inr ⟨by rw [hEb.out];decide,by rw [hEb.out];(try rfl)⟩⟩
   | true =>
    obtain ⟨e1,e2⟩:=hb1 rfl;clear hb0 hb1;replace hO5:=Za hO5;replace hB5:=Za hB5;replace hBw5:=Za hBw5;replace e1:=Za e1;replace e2:=Za e2;replace hs5:=Za hs5
    go_upto_region 15 with fail
    clear hV hBw5;have hVa : Below V.heap.size V (V.alloc (.cells #[.int .i64 S.t,.int .i64 S.p0,.int .i64 S.p1,.int .i64 S.p2,.int .i64 S.v0,.int .i64 S.v1,.int .i64 S.v2] 46)):=(Below.refl _ _).alloc (Nat.le_refl _) _;have hO6:=Za (hO5.out.below hVa);have hB6:=Za (hB5.out.trans (hVa.mono hs5.out));have hnw:=Za (Zik V #[.int .i64 S.t,.int .i64 S.p0,.int .i64 S.p1,.int .i64 S.p2,.int .i64 S.v0,.int .i64 S.v1,.int .i64 S.v2] 46)
    have hz6 : Hid (∀ j,j < i + 1 -> movE s dir (Zb6 m step j) = 0):=Za (fun j hj=>by
     by_cases hji : j = i
     ·subst hji;exact e1.out
     ·exact hz.out j (by omega))
    have hsz6:=Za hB6.out.size;clear e1 hz hO5 hB5 hVa hs5;go_wp2_with (at_builtin;refine wpList_append_own _ rfl (.tmp 64) (.tmp 66) 47 rfl w2.heap.size 46 iS _ 7 56 Tryz.underlying47 hi hz0 hz1 hz2 Zm1 (by decide) u14 _ _ rfl hO6.out ⟨V.heap.size,0,none⟩ 1 1 [.int .i64 S.t,.int .i64 S.p0,.int .i64 S.p1,.int .i64 S.p2,.int .i64 S.v0,.int .i64 S.v1,.int .i64 S.v2] rfl rfl hnw.out (by simp [Value.oneCell']) (by rw [Zfr];unfold maxLen;omega) (by rw [Zfr];omega) hsz6.out ?_;intro v6 w6 hr6 hg6 _;have hO7:=Za hr6;have hB7:=Za (hB6.out.grown hg6 hsz6.out (fun k e=>(World.ownsRow.lt hO6.out k e).1)));have hO8 : Hid (OwnS w6 w2.heap.size v6 (lineU dir s step m (i + 1))):=Za (by rw [Zoe,e2.out];exact OwnS.snoc hO7.out rfl rfl rfl);clear hO7 hO6 hB6
    go_roundg (2 * m + 1 - (i + 1))
    case measure=>omega
    case rel=>exact ⟨i + 1,wrap64 (J + 1),by omega,(by have:=hJ.out;unfold wrap64;omega),rfl,hO8,hz6,hB7⟩
def Zfz : Int -> List Int -> List Int
 | x,[]=>[x]
 | x,y :: l=>(x + y) :: Zfz y l
def Zip : Nat -> List Int
 | 0=>[1]
 | i + 1=>Zfz 0 (Zip i)
theorem Zk9 : ∀ (x : Int) (l : List Int),(Zfz x l).length = l.length + 1
 | _,[]=>rfl
 | x,y :: l=>by show (Zfz y l).length + 1 = _;rw [Zk9 y l];rfl
theorem Znh : ∀ i,(Zip i).length = i + 1
 | 0=>rfl
 | i + 1=>by show (Zfz 0 (Zip i)).length = _;rw [Zk9,Znh i]
theorem Zkg : ∀ (x : Int) (l : List Int) (k : Nat),(Zfz x l)[k]?.getD 0 = (if k = 0 then x else l[k - 1]?.getD 0) + l[k]?.getD 0
 | x,[],0=>by simp [Zfz]
 | x,[],k + 1=>by simp [Zfz]
 | x,y :: l,0=>by simp [Zfz]
 | x,y :: l,k + 1=>by
  show ((x + y) :: Zfz y l)[k + 1]?.getD 0 = _;rw [List.getElem?_cons_succ,Zkg y l k]
  cases k with
  | zero=>simp
  | succ k=>simp
theorem Zny (i k : Nat) : (Zip (i + 1))[k]?.getD 0 = (if k = 0 then 0 else (Zip i)[k - 1]?.getD 0) + (Zip i)[k]?.getD 0:=Zkg 0 (Zip i) k
theorem Zo6 : ∀ i,i <= 40 -> (Zip i).all (fun x=>decide (0 < x) && decide (x < 4611686018427387904)) = true:=by decide +kernel
def pg (i j : Nat) : Int:=(Zip i)[j]?.getD 0
def Zej (l : List Int) : Array Value:=(l.map (fun x=>Value.int .i64 x)).toArray
def Znc (i : Nat) : List Int:=(List.range 41).map (pg i)
def Zh3 (i k : Nat) : List Int:=(List.range 41).map fun j=>if k < j then pg (i + 1) j else pg i j
theorem Zpl {i j : Nat} (h : i < j) : pg i j = 0:=by
 unfold pg;rw [List.getElem?_eq_none (by rw [Znh];omega)];rfl
theorem Zgx (i : Nat) : pg i 0 = 1:=by
 induction i with
 | zero=>rfl
 | succ i ih =>
  have h:=Zny i 0;simp only [if_true] at h;have ih' : (Zip i)[0]?.getD 0 = 1:=ih;rw [ih'] at h;exact h
theorem Zlh (i k : Nat) : pg (i + 1) (k + 1) = pg i (k + 1) + pg i k:=by
 have h:=Zny i (k + 1);rw [if_neg (by omega),Nat.add_sub_cancel] at h;unfold pg;rw [h];omega
theorem Zd3 {i : Nat} (h : i <= 40) (j : Nat) : 0 <= pg i j /\ pg i j < 4611686018427387904:=by
 by_cases hj : j < (Zip i).length
 ·have h1:=Zo6 i h
  rw [List.all_eq_true] at h1;have h2:=h1 _ (List.getElem_mem hj);simp only [Bool.and_eq_true,decide_eq_true_eq] at h2;unfold pg;rw [List.getElem?_eq_getElem hj];exact ⟨by have:=h2.1;simp only [Option.getD_some];omega,h2.2⟩
 ·unfold pg
  rw [List.getElem?_eq_none (by omega)];exact ⟨Int.le_refl _,by decide⟩
theorem Zog (i : Nat) : Zh3 i (i + 1) = Znc i:=by
 unfold Zh3 Znc
 apply List.map_congr_left
 intro j _
 by_cases h : i + 1 < j
 ·rw [if_pos h,Zpl (by omega),Zpl (by omega)]
 ·rw [if_neg h]
theorem Zsp (i : Nat) : Zh3 i 0 = Znc (i + 1):=by
 unfold Zh3 Znc
 apply List.map_congr_left
 intro j _
 cases j with
 | zero=>rw [if_neg (by omega),Zgx,Zgx]
 | succ j=>rw [if_pos (by omega)]
theorem Zgi {l : List Int} {k : Nat} {x : Int} (h : l[k]? = some x) : (Zej l)[k]? = some (.int .i64 x):=by
 unfold Zej;rw [List.getElem?_toArray,List.getElem?_map,h];rfl
theorem Zfg {i k j : Nat} (h : j < 41) : (Zh3 i k)[j]? = some (if k < j then pg (i + 1) j else pg i j):=by
 unfold Zh3;rw [List.getElem?_map,List.getElem?_range h];rfl
theorem Zsl {i k : Nat} (h : k + 1 < 41) : (Zej (Zh3 i (k + 1))).setIfInBounds (k + 1) (.int .i64 (pg i (k + 1) + pg i k)) = Zej (Zh3 i k):=by
 unfold Zej;rw [List.setIfInBounds_toArray]
 congr 1
 apply List.ext_getElem?
 intro j;rw [List.getElem?_set,List.length_map]
 have hl : (Zh3 i (k + 1)).length = 41:=by unfold Zh3;simp
 by_cases hj : k + 1 = j
 ·subst hj
  rw [if_pos rfl,if_pos (by rw [hl];exact h),List.getElem?_map,Zfg h,if_pos (by omega),Zlh];rfl
 ·rw [if_neg hj,List.getElem?_map,List.getElem?_map]
  by_cases h2 : j < 41
  ·rw [Zfg h2,Zfg h2]
   by_cases h3 : k + 1 < j
   ·rw [if_pos h3,if_pos (by omega)]
   ·rw [if_neg h3,if_neg (by omega)]
  ·rw [List.getElem?_eq_none (by rw [hl];omega),List.getElem?_eq_none (by unfold Zh3;simp;omega)]
def Zgl (n : Nat) : List Rat:=(List.range (2 * n + 1)).map fun j=>Rat.divInt (pg (2 * n) j) (2 ^ (2 * n))
theorem Zdz {n : Nat} : (Zgl n).length = 2 * n + 1:=by simp [Zgl]
theorem Zla {n i : Nat} (h : i < 2 * n + 1) : (Zgl n).take i ++ [Rat.divInt (pg (2 * n) i) (2 ^ (2 * n))] = (Zgl n).take (i + 1):=by
 rw [List.take_add_one];unfold Zgl;rw [List.getElem?_map,List.getElem?_range h];rfl
def WeiPost (n : Int) (w : World) (e : Ending) (w' : World) : Prop:=
 Below w.heap.size w w' /\ ((0 <= n /\ n <= 20 /\ ∃ A c,e = .returned (.tuple #[.slice A (2 * n.toNat + 1) c,.int .i64 0]) /\ FL w' A (2 * n.toNat + 1) c (Zgl n.toNat)) \/ (¬ (0 <= n /\ n <= 20) /\ e = .returned (.tuple #[.slice none 0 0,.int .i64 2])))
theorem Ztf {t : TypeId} {B : Nat} {w0 w : World} {g k : Nat} {cs : Array Value} (v : Value) (hB : Below B w0 w) (hs : B <= g) (hb : Blk w g t cs) : ∃ W,w.setCell ⟨g,k,none⟩ v = W /\ Below B w0 W /\ Blk W g t (cs.setIfInBounds k v):=
 ⟨_,rfl,hB.setCell (p:=⟨g,k,none⟩) hs _,hb.set_ k v⟩
theorem Zl6 (n : Int) (w : World) (hn1 : -9223372036854775808 <= n) (hn2 : n <= 9223372036854775807) :
    Calls Tryz.prog 23 #[.int .i64 n] w (WeiPost n w):=by
 obtain ⟨iF,hi,hz0,hz1,hz2⟩:=info_parts Zfl
 have hmx : Tryz.prog.follows .mixedOrders = true:=by kernel_rfl
 by_cases h0 : n < 0
 case pos =>
  have t1 : decide (n < 0) = true:=decide_eq_true h0;go_enter Tryz.func23,Tryz.ntmps23;go_wp2_with fail;go_returns;exact ⟨Below.refl _ _,.inr ⟨by omega,rfl⟩⟩
 have t1 : decide (n < 0) = false:=decide_eq_false h0
 by_cases h20 : 20 < n
 case pos =>
  have t2 : decide (20 < n) = true:=decide_eq_true h20;go_enter Tryz.func23,Tryz.ntmps23;go_wp2_with fail;go_returns;exact ⟨Below.refl _ _,.inr ⟨by omega,rfl⟩⟩
 have t2 : decide (20 < n) = false:=decide_eq_false h20;obtain ⟨N,hN⟩ : ∃ N : Nat,n = N:=⟨n.toNat,by omega⟩;subst hN
 have hN20 : N <= 20:=by omega
 have t2' : decide (20 < N) = false:=decide_eq_false (by omega)
 have q0 : Blk (w.alloc (.cells #[.int .i64 1,.int .i64 0,.int .i64 0,.int .i64 0,.int .i64 0,.int .i64 0,.int .i64 0,.int .i64 0,.int .i64 0,.int .i64 0,.int .i64 0,.int .i64 0,.int .i64 0,.int .i64 0,.int .i64 0,.int .i64 0,.int .i64 0,.int .i64 0,.int .i64 0,.int .i64 0,.int .i64 0,.int .i64 0,.int .i64 0,.int .i64 0,.int .i64 0,.int .i64 0,.int .i64 0,.int .i64 0,.int .i64 0,.int .i64 0,.int .i64 0,.int .i64 0,.int .i64 0,.int .i64 0,.int .i64 0,.int .i64 0,.int .i64 0,.int .i64 0,.int .i64 0,.int .i64 0,.int .i64 0] 122)) w.heap.size 122 (Zej (Znc 0)):=by
  have e : Zej (Znc 0) = #[.int .i64 1,.int .i64 0,.int .i64 0,.int .i64 0,.int .i64 0,.int .i64 0,.int .i64 0,.int .i64 0,.int .i64 0,.int .i64 0,.int .i64 0,.int .i64 0,.int .i64 0,.int .i64 0,.int .i64 0,.int .i64 0,.int .i64 0,.int .i64 0,.int .i64 0,.int .i64 0,.int .i64 0,.int .i64 0,.int .i64 0,.int .i64 0,.int .i64 0,.int .i64 0,.int .i64 0,.int .i64 0,.int .i64 0,.int .i64 0,.int .i64 0,.int .i64 0,.int .i64 0,.int .i64 0,.int .i64 0,.int .i64 0,.int .i64 0,.int .i64 0,.int .i64 0,.int .i64 0,.int .i64 0]:=by kernel_rfl
  rw [e];exact Blk.new w _ _
 have hB0 : Below w.heap.size w (w.alloc (.cells #[.int .i64 1,.int .i64 0,.int .i64 0,.int .i64 0,.int .i64 0,.int .i64 0,.int .i64 0,.int .i64 0,.int .i64 0,.int .i64 0,.int .i64 0,.int .i64 0,.int .i64 0,.int .i64 0,.int .i64 0,.int .i64 0,.int .i64 0,.int .i64 0,.int .i64 0,.int .i64 0,.int .i64 0,.int .i64 0,.int .i64 0,.int .i64 0,.int .i64 0,.int .i64 0,.int .i64 0,.int .i64 0,.int .i64 0,.int .i64 0,.int .i64 0,.int .i64 0,.int .i64 0,.int .i64 0,.int .i64 0,.int .i64 0,.int .i64 0,.int .i64 0,.int .i64 0,.int .i64 0,.int .i64 0] 122)):=(Below.refl _ _).alloc (Nat.le_refl _) _;obtain ⟨W0,hW0⟩ : ∃ W,w.alloc (.cells #[.int .i64 1,.int .i64 0,.int .i64 0,.int .i64 0,.int .i64 0,.int .i64 0,.int .i64 0,.int .i64 0,.int .i64 0,.int .i64 0,.int .i64 0,.int .i64 0,.int .i64 0,.int .i64 0,.int .i64 0,.int .i64 0,.int .i64 0,.int .i64 0,.int .i64 0,.int .i64 0,.int .i64 0,.int .i64 0,.int .i64 0,.int .i64 0,.int .i64 0,.int .i64 0,.int .i64 0,.int .i64 0,.int .i64 0,.int .i64 0,.int .i64 0,.int .i64 0,.int .i64 0,.int .i64 0,.int .i64 0,.int .i64 0,.int .i64 0,.int .i64 0,.int .i64 0,.int .i64 0,.int .i64 0] 122) = W:=⟨_,rfl⟩;rw [hW0] at q0 hB0;replace q0:=Za q0;replace hB0:=Za hB0;replace h0:=Za h0;replace h20:=Za h20;replace hW0:=Za hW0;go_enter Tryz.func23,Tryz.ntmps23;go_wp2_with fail;rw [hW0.out];clear hW0
 go_loopg [5] (2 * N) (fun k iv wr=>∃ i : Nat,i + k = 2 * N + 1 /\ 1 <= i /\ iv = .int .i64 i /\ Hid (Below w.heap.size w wr) /\ Hid (Blk wr w.heap.size 122 (Zej (Znc (i - 1)))))
 case atStart=>exact ⟨1,by omega,by omega,by go_num,hB0,q0⟩
 case round =>
  clear hB0 q0;obtain ⟨wi,rfl⟩ : ∃ x : World,x = wr:=⟨_,rfl⟩;obtain ⟨i,hik,hi1,rfl,hBi,q0⟩:=hrel
  cases gk with
  | zero =>
   obtain rfl : i = 2 * N + 1:=by omega
   have t3 : decide (((2 * N + 1 : Nat) : Int) <= 2 * (N : Int)) = false:=decide_eq_false (by omega);rw [Nat.add_sub_cancel] at q0;have hmk:=Zna (P:=Tryz.prog) 23 29 Tryz.underlying23 hi hz0 hz1 hz2 (2 * N + 1) (by omega) wi;have hOm:=Zkj 29 wi (2 * N + 1) (by unfold maxLen;omega);obtain ⟨V1,hV1⟩ : ∃ V,wi.alloc (.cells (Z3 (List.replicate (2 * N + 1) Zag)) 29) = V:=⟨_,rfl⟩
   have hBV : Below wi.heap.size wi V1:=by rw [<- hV1];exact (Below.refl _ _).alloc (Nat.le_refl _) _
   rw [hV1] at hOm hmk;rw [show ((2 * N + 1 : Nat) : Int) = 2 * (N : Int) + 1 by omega] at hmk;replace hOm:=Za hOm
   have b41 : 2 * (N : Int) + 1 <= 41:=by omega
   have b00 : (0 : Int) <= 2 * (N : Int) + 1:=by omega
   go_wp2_with fail;clear hmk;have hq0:=Za (Zb hBV q0.out);obtain ⟨D,hD⟩ : ∃ D : Int,(2 : Int) ^ (2 * N) = D:=⟨_,rfl⟩
   have hD0 : 0 < D:=by rw [<- hD];exact Int.pow_pos (by decide)
   have hD1 : D <= 1099511627776:=by
    rw [<- hD];have h:=Nat.pow_le_pow_right (n:=2) (by decide) (show 2 * N <= 40 by omega)
    have e : ((2 ^ (2 * N) : Nat) : Int) = (2 : Int) ^ (2 * N):=by push_cast;rfl
    rw [<- e];omega
   go_loopg [7,48] (2 * N + 1) (fun t rv iv wr=>∃ i : Nat,i + t = 2 * N + 1 /\ iv = .int .i64 i /\ Hid (OwnF 29 wr wi.heap.size rv ((Zgl N).take i)) /\ Below wi.heap.size wi wr)
   case atStart=>exact ⟨0,by omega,rfl,Za (by simpa using hOm.out),hBV⟩
   case round =>
    clear hOm hV1 hBV V1 hq0;obtain ⟨wj,rfl⟩ : ∃ x : World,x = wr:=⟨_,rfl⟩;obtain ⟨i,hik,rfl,hO,hBj⟩:=hrel;have hBw:=Za (hBi.out.trans (hBj.mono hBi.out.size))
    cases gk with
    | zero =>
     obtain rfl : i = 2 * N + 1:=by omega
     have t5 : decide (((2 * N + 1 : Nat) : Int) < 2 * (N : Int) + 1) = false:=decide_eq_false (by omega);obtain ⟨rA,rc,e9,hrF⟩:=hO.out.fl
     have hrl : ((Zgl N).take (2 * N + 1)).length = 2 * N + 1:=by rw [List.length_take,Zdz];omega
     rw [hrl] at e9 hrF;subst e9;rw [List.take_of_length_le (by rw [Zdz];exact Nat.le_refl _)] at hrF;replace hrF:=Za hrF;go_wp2_with fail;go_returns;exact ⟨hBw.out,.inl ⟨by omega,by omega,_,_,rfl,hrF.out⟩⟩
    | succ t' =>
     obtain rfl : t' = 2 * N + 1 - (i + 1):=by omega
     have t5 : decide ((i : Int) < 2 * (N : Int) + 1) = true:=decide_eq_true (by omega)
     have bi : (i : Int) < 2 * (N : Int) + 1:=by omega
     have q1:=Zb hBj q0.out
     have c1 : wj.cell? ⟨w.heap.size,i,none⟩ = some (.int .i64 (pg (2 * N) i)):=by
      have h:=q1.cell i;rw [Zgi (by unfold Znc;rw [List.getElem?_map,List.getElem?_range (by omega)];rfl)] at h;exact h
     have hpb:=Zd3 (i:=2 * N) (by omega) i;obtain ⟨x,hx⟩ : ∃ x,pg (2 * N) i = x:=⟨_,rfl⟩;have hsc:=Zla (n:=N) (i:=i) (by omega);rw [hD,hx] at hsc;rw [hx] at c1 hpb;have hOf:=Za (fun W=>Ztt x D W (by omega) (by omega) hD0 (by omega));replace hpb:=Za hpb;replace hx:=Za hx;replace hsc:=Za hsc;clear q1;go_wp2_with fail;refine (hOf.out wj).mono ?_;rintro e w5 ⟨hb5,bbn,bbA,bbk,bbc,bbm,bbB,bbj,bbd,rfl,bbf⟩;clear c1;obtain ⟨Y0,hY0⟩ : ∃ Y,w5.alloc (.cells #[.bool bbn,.slice bbA bbk bbc,.bool bbm,.slice bbB bbj bbd] 29) = Y:=⟨_,rfl⟩
     have hBY0 : Below w5.heap.size w5 Y0:=by rw [<- hY0];exact (Below.refl _ _).alloc (Nat.le_refl _) _
     have hbY0 : Blk Y0 w5.heap.size 29 #[.bool bbn,.slice bbA bbk bbc,.bool bbm,.slice bbB bbj bbd]:=by rw [<- hY0];exact Blk.new _ _ _
     obtain ⟨z0,z1,z2,z3,-⟩:=hbY0.four;obtain ⟨Y1,hY1⟩ : ∃ Y,Y0.alloc (.cells #[.bool bbn,.slice bbA bbk bbc,.bool bbm,.slice bbB bbj bbd] 29) = Y:=⟨_,rfl⟩;obtain ⟨gz,hgz⟩ : ∃ g,Y0.heap.size = g:=⟨_,rfl⟩
     have hBY : Below Y0.heap.size Y0 Y1:=by rw [<- hY1];exact (Below.refl _ _).alloc (Nat.le_refl _) _
     have hbY : Blk Y1 gz 29 #[.bool bbn,.slice bbA bbk bbc,.bool bbm,.slice bbB bbj bbd]:=by rw [<- hY1,<- hgz];exact Blk.new _ _ _
     have hOY:=((hO.out.kept hb5).kept hBY0).kept hBY;have hfY:=(bbf.below hBY0).below hBY;have hjY : Below wi.heap.size wi Y1:=hBj.trans ((hb5.trans ((hBY0.trans (hBY.mono hBY0.size)).mono hb5.size)).mono hBj.size);have hsz:=hjY.size
     have hrl : ((Zgl N).take i).length = i:=by rw [List.length_take,Zdz];omega
     have hll : ((Zgl N).take i).length + 1 <= 1000:=by rw [hrl];omega
     obtain ⟨rA,rc,e9,hrF⟩:=hO.out.fl;rw [hrl] at e9;subst e9;replace hsc:=hsc.out;clear hO bbf hb5 hbY0;go_wp2_with ((try rw [hY1]);(try rw [hgz]);at_builtin;refine Za3 _ rfl (.tmp 60) (.tmp 62) 23 rfl wi.heap.size 29 iF Tryz.underlying23 hi hz0 hz1 hz2 _ _ rfl hOY _ (some ⟨gz,0,none⟩) 1 1 [⟨bbn,bbA,bbk,bbc,bbm,bbB,bbj,bbd,Rat.divInt x D⟩] rfl (Zal _ hbY) rfl (by intro e he;rw [List.mem_singleton] at he;subst he;exact hfY) hll hsz ?_;intro v7 w7 hO7 hg7 hk7);have hj7:=hjY.grown hg7 hsz (fun k hk=>hOY.row_ge k hk);simp only [List.map_cons,List.map_nil] at hO7;rw [hsc] at hO7;replace hO7:=Za hO7
     go_roundg (2 * N + 1 - (i + 1))
     case measure=>omega
     case rel=>exact ⟨i + 1,by omega,by go_num,hO7,hj7⟩
  | succ t' =>
   obtain rfl : t' = 2 * N - i:=by omega
   obtain ⟨i',hi'⟩ : ∃ j,i = j + 1:=⟨i - 1,by omega⟩;rw [show i - 1 = i' by omega] at q0;have t3 : decide ((i : Int) <= 2 * (N : Int)) = true:=decide_eq_true (by omega);replace hi':=Za hi';go_wp2_with fail
   go_loopg [6] i (fun k kv wr=>k <= i /\ kv = .int .i64 k /\ Hid (Below w.heap.size w wr) /\ Hid (Blk wr w.heap.size 122 (Zej (Zh3 i' k))))
   case atStart=>exact ⟨Nat.le_refl _,by go_num,hBi,Za (by rw [hi'.out,Zog];exact q0.out)⟩
   case round =>
    clear hBi q0;obtain ⟨wj,rfl⟩ : ∃ x : World,x = wr:=⟨_,rfl⟩;obtain ⟨hki,rfl,hBj,q0⟩:=hrel;have hi2:=hi'.out
    cases gk with
    | zero =>
     clear hi2
     have t4 : decide (((0 : Nat) : Int) > 0) = false:=by decide
     go_wp2_with fail
     go_roundg (2 * N - i)
     case measure=>omega
     case rel=>exact ⟨i + 1,by omega,by omega,by go_num,hBj,Za (by rw [Nat.add_sub_cancel,hi'.out,<- Zsp];exact q0.out)⟩
    | succ k' =>
     have hk41 : k' + 1 < 41:=by omega
     have hi40 : i' <= 40:=by omega
     clear hi2;have t4 : decide ((0 : Int) < ((k' + 1 : Nat) : Int)) = true:=decide_eq_true (by omega)
     have b1 : ((k' + 1 : Nat) : Int) < 41:=by omega
     have b0 : (k' : Int) < 41:=by omega
     have b1' : (k' : Int) + 1 < 41:=by omega
     have p1 : (0 : Int) <= (k' : Int) + 1:=by omega
     have p0 : (0 : Int) <= (k' : Int):=by omega
     have hwk : IntKind.i64.wrap (k' : Int) = (k' : Int):=IntWalk.i64_in _ (by omega)
     have c1 : wj.cell? ⟨w.heap.size,k' + 1,none⟩ = some (.int .i64 (pg i' (k' + 1))):=by
      have h:=q0.out.cell (k' + 1);rw [Zgi (Zfg (by omega)),if_neg (by omega)] at h;exact h
     have c0 : wj.cell? ⟨w.heap.size,k',none⟩ = some (.int .i64 (pg i' k')):=by
      have h:=q0.out.cell k';rw [Zgi (Zfg (by omega)),if_neg (by omega)] at h;exact h
     have f1:=q0.out.frozen (k' + 1);have hbx:=Zd3 (i:=i') (by omega) (k' + 1);have hby:=Zd3 (i:=i') (by omega) k';have hset:=Za (Zsl (i:=i') (k:=k') (by omega));obtain ⟨x,hx⟩ : ∃ x,pg i' (k' + 1) = x:=⟨_,rfl⟩;obtain ⟨y,hy⟩ : ∃ y,pg i' k' = y:=⟨_,rfl⟩;rw [hx] at c1 hbx hset;rw [hy] at c0 hby hset;replace hx:=Za hx;replace hy:=Za hy;have hx1:=hbx.1;have hx2:=hbx.2;have hy1:=hby.1;have hy2:=hby.2;clear hbx hby;have hwxy : IntKind.i64.wrap (x + y) = x + y:=IntWalk.i64_in _ (by omega);go_wp2_with fail;have hr : Below wj.heap.size wj wj.drew:=Zh (Below.refl _ _) 1;have hSv : wj.drew.cell? ⟨w.heap.size,k' + 1,none⟩ = some (.int .i64 x) /\ wj.drew.cell? ⟨w.heap.size,k',none⟩ = some (.int .i64 y):=⟨Zc hr c1,Zc hr c0⟩;have q1:=Zb hr q0.out;have f2:=q1.frozen (k' + 1);refine Z0 [9] (fun wx=>wx.cell? ⟨w.heap.size,k' + 1,none⟩ = some (.int .i64 x) /\ wx.cell? ⟨w.heap.size,k',none⟩ = some (.int .i64 y)) hmx hSv (fun hxs=>?_);refine Zty 9 [0,1,2,3,4,5,6,7,8] rfl (by kernel_rfl) hSv ?_
     iterate 9 (refine tk1 (v:=?_) rfl (Or.inl ⟨by kernel_rfl,?_⟩) ?_;rotate_left;(· intro W2 hSw;(try dsimp only at hSw);go_simp;try with_reducible rfl);try simp only [Act.put,putL_a,putL_z,putL_s,putG_a,putG_s,putG_z])
     refine tk0 ?_;refine Zt (i:=9) rfl (by kernel_rfl) (by kernel_rfl) (fun K hK=>?_);have c1':=hSv.1;go_simp;obtain ⟨Wa,hWa,hBa,qa⟩:=Ztf (k:=k' + 1) (.int .i64 (x + y)) hBj.out (Nat.le_refl _) q0.out;rw [hset.out] at qa;rw [hWa];have hrd : Below Wa.heap.size Wa Wa.drew:=Zh (Below.refl _ _) 1;replace qa:=Zb hrd qa;replace hBa:=hBa.trans (hrd.mono hBa.size);refine hK.out _ _ ?_;clear hK K
     try simp only [Act.put,putL_a,putL_z,putL_s]
     refine Zj (by kernel_rfl) ?_ _;refine OnlyNormal.normal ?_;clear hSv hxs c1 c0 f1 f2 c1' q1 hWa;replace qa:=Za qa;replace hBa:=Za hBa;go_wp2_with fail
     go_roundg k'
     case measure=>omega
     case rel=>exact ⟨by omega,by go_num,hBa,qa⟩
theorem info64r : (Tryz.prog.info? 2).map (fun i=>(i.zero,i.size,i.bytes)) = some (some (.int .i64 0),1,8):=by kernel_rfl
def RowZ (w : World) (A : Option Addr) (c i : Nat) : Prop:=i + 1 <= c /\ c <= maxLen /\ ∃ g,A = some ⟨g,0,none⟩ /\ ∀ k,k < i + 1 -> w.cell? ⟨g,k,none⟩ = some (.int .i64 (pg i k))
theorem RowZ.below {w w' : World} {A : Option Addr} {c i : Nat} (h : RowZ w A c i) (hb : Below w.heap.size w w') : RowZ w' A c i:=by
 obtain ⟨h1,h2,g,e,h3⟩:=h;exact ⟨h1,h2,g,e,fun k hk=>Zc hb (h3 k hk)⟩
def Zhg (i k : Nat) : List Int:=(List.range k).map (pg i)
theorem Zfk {i k : Nat} : (Zhg i k).length = k:=by simp [Zhg]
theorem Zko {i k : Nat} : Zhg i (k + 1) = Zhg i k ++ [pg i k]:=by
 unfold Zhg;rw [List.range_succ,List.map_append];rfl
def OwnZ (w : World) (base : Nat) (v : Value) (l : List Int) : Prop:=w.ownsRow base 2 1 v l.length (l.map fun z=>.int .i64 z)
theorem OwnZ.below {w w' : World} {base : Nat} {v : Value} {l : List Int} (h : OwnZ w base v l) (hb : Below w.heap.size w w') : OwnZ w' base v l:=World.ownsRow.kept h ⟨hb.os,hb.tape,hb.output,hb.size,fun k hk _=>hb.block k hk⟩ (by
 by_cases e : v.ownBlock = none
 ·exact .inl e
 ·exact .inr e)
theorem OwnZ.row {w : World} {base : Nat} {v : Value} {i : Nat} (h : OwnZ w base v (Zhg i (i + 1))) : ∃ A c,v = .slice A (i + 1) c /\ RowZ w A c i:=by
 unfold OwnZ at h;rw [Zfk] at h
 rcases h.2 with ⟨_,h0⟩ | ⟨g,cap,cur,rfl,_,hg,h1,h2,h3,h4⟩
 ·omega
 refine ⟨_,_,rfl,h1,h2,g,rfl,fun k hk=>?_⟩
 have e : (cur.toList.take ((i + 1) * 1))[k]? = some (.int .i64 (pg i k)):=by
  rw [h4,List.getElem?_map];unfold Zhg;rw [List.getElem?_map,List.getElem?_range hk];rfl
 rw [List.getElem?_take_of_lt (by omega),Array.getElem?_toList] at e;simp only [World.cell?,hg];exact e
theorem OwnZ.one {w : World} {base g i : Nat} (h : Blk w g 2 #[.int .i64 1]) (hb : base <= g) : OwnZ w base (.slice (some ⟨g,0,none⟩) 1 1) (Zhg i 1):=by
 have e : Zhg i 1 = [1]:=by unfold Zhg;simp [List.range_succ,Zgx]
 rw [e];exact ⟨rfl,.inr ⟨g,1,_,rfl,hb,h,Nat.le_refl _,by unfold maxLen;omega,rfl,rfl⟩⟩
theorem Zpu : ∀ i,pg i i = 1
 | 0=>Zgx 0
 | i + 1=>by rw [Zlh,Zpl (by omega),Zpu i];rfl
theorem RowZ.one {w : World} {g : Nat} (h : Blk w g 2 #[.int .i64 1]) : RowZ w (some ⟨g,0,none⟩) 1 0:=by
 refine ⟨Nat.le_refl _,by unfold maxLen;omega,g,rfl,fun k hk=>?_⟩
 obtain rfl : k = 0:=by omega
 rw [Zgx];exact h.cell 0
theorem OwnZ.snoc {w : World} {base n : Nat} {v : Value} {l : List Int} {x : Int} {xs news : List Value} (h : w.ownsRow base 2 1 v (n + 1) (xs ++ news)) (hn : n = l.length) (h1 : xs = l.map fun z=>.int .i64 z) (h2 : news = [.int .i64 x]) : OwnZ w base v (l ++ [x]):=by
 subst hn h1 h2;unfold OwnZ;rw [List.length_append,List.map_append];exact h
theorem Zjg (W : World) (x : Int) (t : TypeId) : ∀ (j : Nat) (u : Value),[Value.int .i64 x][j]? = some u -> (W.alloc (.cells #[.int .i64 x] t)).cell? ((⟨W.heap.size,0,none⟩ : Addr).add j) = some u:=by
 intro j u h;have h1:=(Blk.new W t #[.int .i64 x]).cell j
 have h2 : #[Value.int .i64 x][j]? = some u:=by
  rw [List.getElem?_toArray];exact h
 rw [h2] at h1
 have e : (⟨W.heap.size,0,none⟩ : Addr).add j = ⟨W.heap.size,j,none⟩:=by
  cases j with
  | zero=>rfl
  | succ j=>simp [Addr.add]
 rw [e];exact h1
theorem Zmf (n : Int) (w : World) (hn1 : -9223372036854775808 <= n) (hn2 : n <= 9223372036854775807) :
    Calls Tryz.prog 24 #[.int .i64 n] w (WeiPost n w):=by
 obtain ⟨iF,hi,hz0,hz1,hz2⟩:=info_parts Zfl;obtain ⟨iI,ji,jz0,jz1,jz2⟩:=info_parts info64r
 have hmx : Tryz.prog.follows .mixedOrders = true:=by kernel_rfl
 by_cases h0 : n < 0
 case pos =>
  have t1 : decide (n < 0) = true:=decide_eq_true h0;go_enter Tryz.func24,Tryz.ntmps24;go_wp2_with fail;go_returns;exact ⟨Below.refl _ _,.inr ⟨by omega,rfl⟩⟩
 have t1 : decide (n < 0) = false:=decide_eq_false h0
 by_cases h20 : 20 < n
 case pos =>
  have t2 : decide (20 < n) = true:=decide_eq_true h20;go_enter Tryz.func24,Tryz.ntmps24;go_wp2_with fail;go_returns;exact ⟨Below.refl _ _,.inr ⟨by omega,rfl⟩⟩
 have t2 : decide (20 < n) = false:=decide_eq_false h20;obtain ⟨N,hN⟩ : ∃ N : Nat,n = N:=⟨n.toNat,by omega⟩;subst hN
 have hN20 : N <= 20:=by omega
 have t2' : decide (20 < N) = false:=decide_eq_false (by omega);obtain ⟨V0,hV0⟩ : ∃ W,w.alloc (.cells #[.int .i64 1] 2) = W:=⟨_,rfl⟩
 have q0 : Blk V0 w.heap.size 2 #[.int .i64 1]:=by rw [<- hV0];exact Blk.new _ _ _
 have hB0 : Below w.heap.size w V0:=by rw [<- hV0];exact (Below.refl _ _).alloc (Nat.le_refl _) _
 have hR0:=Za (RowZ.one q0);clear q0;replace hB0:=Za hB0;replace h0:=Za h0;replace h20:=Za h20;replace hV0:=Za hV0;go_enter Tryz.func24,Tryz.ntmps24;go_wp2_with fail;rw [hV0.out];clear hV0
 go_loopg [4,5] (2 * N) (fun t rv iv wr=>∃ (i : Nat) (A : Option Addr) (c : Nat),i + t = 2 * N /\ iv = .int .i64 i /\ rv = .slice A (i + 1) c /\ Hid (RowZ wr A c i) /\ Hid (Below w.heap.size w wr))
 case atStart=>exact ⟨0,_,_,by omega,by go_num,rfl,hR0,hB0⟩
 case round =>
  clear hB0 hR0;obtain ⟨wi,rfl⟩ : ∃ x : World,x = wr:=⟨_,rfl⟩;obtain ⟨i,A,c,hik,rfl,rfl,hR,hBi⟩:=hrel;have hcc:=hR.out.1;have hcm:=hR.out.2.1;unfold maxLen at hcm
  cases gk with
  | zero =>
   obtain rfl : i = 2 * N:=by omega
   have t3 : decide (((2 * N : Nat) : Int) < 2 * (N : Int)) = false:=decide_eq_false (by omega);obtain ⟨D,hD⟩ : ∃ D : Int,(2 : Int) ^ (2 * N) = D:=⟨_,rfl⟩
   have hD0 : 0 < D:=by rw [<- hD];exact Int.pow_pos (by decide)
   have hD1 : D <= 1099511627776:=by
    rw [<- hD];have h:=Nat.pow_le_pow_right (n:=2) (by decide) (show 2 * N <= 40 by omega)
    have e : ((2 ^ (2 * N) : Nat) : Int) = (2 : Int) ^ (2 * N):=by push_cast;rfl
    rw [<- e];omega
   have hw2 : IntKind.i64.wrap (2 * (N : Int)) = 2 * (N : Int):=IntWalk.i64_in _ (by omega)
   have hSh : IntKind.i64.wrap ((2 : Int) ^ (2 * (N : Int)).toNat) = D:=by
    rw [show (2 * (N : Int)).toNat = 2 * N by omega,hD,IntWalk.i64_in _ (by omega)]
   go_wp2_with fail
   go_loopg [8,9] (2 * N + 1) (fun t rv iv wr=>∃ i : Nat,i + t = 2 * N + 1 /\ iv = .int .i64 i /\ Hid (OwnF 29 wr wi.heap.size rv ((Zgl N).take i)) /\ Below wi.heap.size wi wr)
   case atStart=>exact ⟨0,by omega,rfl,Za (by simpa using OwnF.nil 29 wi wi.heap.size),Below.refl _ _⟩
   case round =>
    obtain ⟨wj,rfl⟩ : ∃ x : World,x = wr:=⟨_,rfl⟩;obtain ⟨i,hik,rfl,hO,hBj⟩:=hrel;have hBw:=Za (hBi.out.trans (hBj.mono hBi.out.size))
    cases gk with
    | zero =>
     obtain rfl : i = 2 * N + 1:=by omega
     have t5 : decide (((2 * N + 1 : Nat) : Int) < 2 * (N : Int) + 1) = false:=decide_eq_false (by omega);obtain ⟨rA,rc,e9,hrF⟩:=hO.out.fl
     have hrl : ((Zgl N).take (2 * N + 1)).length = 2 * N + 1:=by rw [List.length_take,Zdz];omega
     rw [hrl] at e9 hrF;subst e9;rw [List.take_of_length_le (by rw [Zdz];exact Nat.le_refl _)] at hrF;replace hrF:=Za hrF;go_wp2_with fail;go_returns;exact ⟨hBw.out,.inl ⟨by omega,by omega,_,_,rfl,hrF.out⟩⟩
    | succ t' =>
     obtain rfl : t' = 2 * N + 1 - (i + 1):=by omega
     have t5 : decide ((i : Int) < 2 * (N : Int) + 1) = true:=decide_eq_true (by omega)
     have bi : (i : Int) < 2 * (N : Int) + 1:=by omega
     obtain ⟨g,rfl,hc⟩:=(hR.out.below hBj).2.2;have c1:=hc i (by omega);clear hc;have hpb:=Zd3 (i:=2 * N) (by omega) i;obtain ⟨x,hx⟩ : ∃ x,pg (2 * N) i = x:=⟨_,rfl⟩;have hsc:=Zla (n:=N) (i:=i) (by omega);rw [hD,hx] at hsc;rw [hx] at c1 hpb;have hOf:=Za (fun W=>rOf_pos x D W (by omega) (by omega) hD0 (by omega));replace hpb:=Za hpb;replace hx:=Za hx;replace hsc:=Za hsc;go_wp2_with fail;have hSv1 : Hid (∀ wx,Below wj.heap.size wj wx -> wx.cell? ⟨g,i,none⟩ = some (.int .i64 x)):=Za (fun wx hbx=>Zc hbx c1);have hr1 : Below wj.heap.size wj wj.drew:=Zh (Below.refl _ _) 1;refine wp_heldS [] hmx hSv1 hr1 (fun hxs1=>?_);refine Zty 7 [0,1,2,3,4,5,6] rfl (by kernel_rfl) (hSv1.out _ hr1) ?_
     iterate 7 (refine tk1 (v:=?_) rfl (Or.inl ⟨by kernel_rfl,?_⟩) ?_;rotate_left;(· intro W2 hSw;(try dsimp only at hSw);go_simp;try with_reducible rfl);try simp only [Act.put,putL_a,putL_z,putL_s,putG_a,putG_s,putG_z])
     refine tk0 ?_;clear hSh hw2 hD t5 bi t1 t2 t2';refine Zcp [(7,62),(8,54),(9,63),(11,10)] (fun i=>match i with | 8=>[10] | _=>[]) [(7,62),(8,54),(10,64),(9,63),(11,10)] (Zah wj.heap.size (Rat.divInt x D) 7 8 9 10 11 10) 2 (by kernel_rfl) (fun _ _ _ _ _ hb h=>Zdq hb h) (fun wx h=>hSv1.out _ (hr1.trans (h.mono hr1.size))) ?hop1 ?hfin1
     case hop1 =>
      intro p hp;simp only [List.mem_cons,List.not_mem_nil,or_false] at hp;simp only [List.map_cons,List.map_nil,Zao,Act.put,putL_a,putL_z,putL_s]
      rcases hp with rfl | rfl | rfl | rfl
      ·intro ν wx hb hP
       have hbx:=hr1.trans (hb.mono hr1.size);refine Zab (i:=7) rfl (fun K hK=>?_);go_simp;refine (hOf.out wx).mono ?_;rintro e w5 ⟨hb5,na5,A5,k5,c5,nb5,B5,m5,d5,rfl,hf5⟩;exact hK.out _ _ ⟨_,rfl,(by simp only [Zah];exact ⟨_,_,_,_,_,_,_,_,rfl,hf5⟩),hb5,trivial⟩
      ·intro ν wx hb hP
       have h0:=hP (7,62) (by simp) (by kernel_rfl);simp only [Zah] at h0;obtain ⟨na5,A5,k5,c5,nb5,B5,m5,d5,hν,hf5⟩:=h0;rw [hν];refine Zab (i:=8) rfl (fun K hK=>?_);go_simp;refine hK.out _ _ ⟨_,rfl,(by simp only [Zah];exact ⟨_,_,_,_,_,_,_,_,rfl,hf5⟩),Below.refl _ _,?_⟩;exact ⟨_,.int .i64 0,rfl,Or.inl ⟨by kernel_rfl,fun W2 _=>by go_simp⟩,by simp [Zah],trivial⟩
      ·intro ν wx hb hP
       have h0:=hP (8,54) (by simp) (by kernel_rfl);simp only [Zah] at h0;obtain ⟨na5,A5,k5,c5,nb5,B5,m5,d5,hν,hf5⟩:=h0;rw [hν];refine Zab (i:=9) rfl (fun K hK=>?_);go_simp;exact hK.out _ _ ⟨_,rfl,(by simp only [Zah];exact ⟨_,_,_,_,_,_,_,_,rfl,hf5⟩),Below.refl _ _,trivial⟩
      ·intro ν wx hb hP
       refine Zab (i:=11) rfl (fun K hK=>?_);go_simp;exact hK.out _ _ ⟨_,rfl,(by simp only [Zah];exact ⟨_,rfl,hb.size,Blk.new _ _ _⟩),(Below.refl _ _).alloc (Nat.le_refl _) _,trivial⟩
     case hfin1 =>
      intro ν wx hb hP;have h0:=hP (7,62) (by simp);have h1:=hP (8,54) (by simp);have h2:=hP (9,63) (by simp);have h3:=hP (10,64) (by simp);have h4:=hP (11,10) (by simp);simp only [Zah] at h0 h1 h2 h4;obtain ⟨a0,a1,a2,a3,a4,a5,a6,a7,h0,-⟩:=h0;obtain ⟨b0',b1',b2',b3',b4',b5',b6',b7',h1,-⟩:=h1;obtain ⟨bbn,bbA,bbk,bbc,bbm,bbB,bbj,bbd,h2,bbf⟩:=h2;obtain ⟨gbb,h4,kv,qv⟩:=h4;simp only [List.map_cons,List.map_nil,Zao,Act.put,putL_a,putL_z,putL_s];rw [h0,h1,h2,(show ν 64 = Value.int .i64 0 by simpa [Zah] using h3),h4];clear h0 h1 h2 h3 h4 hP ν;have hbx:=hr1.trans (hb.mono hr1.size);have qv4:=qv.four;have kv2 : wj.heap.size <= gbb:=kv;refine (Zaa bbn bbA bbk bbc bbm bbB bbj bbd hbx kv2 qv).elim (fun Zbb hq=>?_);have c0:=qv4.1;have c1':=qv4.2.1;have c2':=qv4.2.2.1;have c3:=qv4.2.2.2.1;have f0:=qv4.2.2.2.2.1;have f1:=qv4.2.2.2.2.2.1;have f2:=qv4.2.2.2.2.2.2.1;have f3:=qv4.2.2.2.2.2.2.2;have hZ:=hq.1;refine Ze (i:=12) rfl (by kernel_rfl) (fun K hK=>?_);go_simp;(try rw [hZ]);refine hK.out _ _ (fun _=>hSv1.out _ hq.2.1) ?_;clear hK K
      try simp only [Act.put,putL_a,putL_z,putL_s]
      refine Ztx 1 [13] rfl (by kernel_rfl) (hSv1.out _ hq.2.1) ?_
      (refine tk1 (v:=?_) rfl (Or.inl ⟨by kernel_rfl,?_⟩) ?_;rotate_left;(· intro W2 _;go_simp;try with_reducible rfl);try simp only [Act.put,putL_a,putL_z,putL_s,putG_a,putG_s,putG_z])
      refine tk0 ?_;refine Zj (by kernel_rfl) ?_ _;refine OnlyNormal.normal ?_;have hbZbb:=hq.2.1;have bbb:=Za hq.2.2.1;replace bbf:=Za (Fr.keep bbf hq.2.2.2.1);clear hq hZ c0 c1' c2' c3 f0 f1 f2 f3 qv4 qv kv hbx hb hr1 hSv1 hxs1;obtain ⟨z0,z1,z2,z3,-⟩:=bbb.out.four;obtain ⟨Y1,hY1⟩ : ∃ Y,Zbb.alloc (.cells #[.bool bbn,.slice bbA bbk bbc,.bool bbm,.slice bbB bbj bbd] 29) = Y:=⟨_,rfl⟩;obtain ⟨gz,hgz⟩ : ∃ g,Zbb.heap.size = g:=⟨_,rfl⟩
      have hBY : Below Zbb.heap.size Zbb Y1:=by rw [<- hY1];exact (Below.refl _ _).alloc (Nat.le_refl _) _
      have hbY : Blk Y1 gz 29 #[.bool bbn,.slice bbA bbk bbc,.bool bbm,.slice bbB bbj bbd]:=by rw [<- hY1,<- hgz];exact Blk.new _ _ _
      have hOY:=(hO.out.kept hbZbb).kept hBY;have hfY:=bbf.out.below hBY;have hjY : Below wi.heap.size wi Y1:=hBj.trans ((hbZbb.trans (hBY.mono hbZbb.size)).mono hBj.size);have hsz:=hjY.size
      have hrl : ((Zgl N).take i).length = i:=by rw [List.length_take,Zdz];omega
      have hll : ((Zgl N).take i).length + 1 <= 1000:=by rw [hrl];omega
      have hsc:=hsc.out;clear c1;go_wp2_with ((try rw [hY1]);(try rw [hgz]);at_builtin;refine Za3 _ rfl (.tmp 65) (.tmp 67) 23 rfl wi.heap.size 29 iF Tryz.underlying23 hi hz0 hz1 hz2 _ _ rfl hOY _ (some ⟨gz,0,none⟩) 1 1 [⟨bbn,bbA,bbk,bbc,bbm,bbB,bbj,bbd,Rat.divInt x D⟩] rfl (Zal _ hbY) rfl (by intro e he;rw [List.mem_singleton] at he;subst he;exact hfY) hll hsz ?_;intro v7 w7 hO7 hg7 hk7);have hj7:=hjY.grown hg7 hsz (fun k hk=>hOY.row_ge k hk);simp only [List.map_cons,List.map_nil] at hO7;rw [hsc] at hO7;replace hO7:=Za hO7
      go_roundg (2 * N + 1 - (i + 1))
      case measure=>omega
      case rel=>exact ⟨i + 1,by omega,by go_num,hO7,hj7⟩
  | succ t' =>
   obtain rfl : t' = 2 * N - (i + 1):=by omega
   have hi40 : i < 40:=by omega
   have t3 : decide ((i : Int) < 2 * (N : Int)) = true:=decide_eq_true (by omega);obtain ⟨V1,hV1⟩ : ∃ W,wi.alloc (.cells #[.int .i64 1] 2) = W:=⟨_,rfl⟩;obtain ⟨b1,hb1⟩ : ∃ b,wi.heap.size = b:=⟨_,rfl⟩
   have q1 : Blk V1 wi.heap.size 2 #[.int .i64 1]:=by rw [<- hV1];exact Blk.new _ _ _
   have hB1 : Below wi.heap.size wi V1:=by rw [<- hV1];exact (Below.refl _ _).alloc (Nat.le_refl _) _
   have hO1:=Za (OwnZ.one (i:=i + 1) q1 (Nat.le_refl _));clear q1;rw [hb1] at hO1;replace hB1:=Za hB1;replace hV1:=Za hV1;replace hb1:=Za hb1;go_wp2_with fail;rw [hV1.out,hb1.out];clear hV1
   go_loopg [6,7] i (fun t rv kv wr=>∃ k : Nat,k + t = i /\ kv = .int .i64 ((k + 1 : Nat) : Int) /\ Hid (OwnZ wr b1 rv (Zhg (i + 1) (k + 1))) /\ Hid (Below wi.heap.size wi wr))
   case atStart=>exact ⟨0,by omega,by go_num,hO1,hB1⟩
   case round =>
    clear hO1 hB1;obtain ⟨wj,rfl⟩ : ∃ x : World,x = wr:=⟨_,rfl⟩;obtain ⟨k,hkt,rfl,hO,hBj⟩:=hrel;have hBw:=Za (hBi.out.trans (hBj.out.mono hBi.out.size));have hsj:=Za hBj.out.size
    cases gk with
    | zero =>
     obtain rfl : k = i:=by omega
     have t4 : decide (((k + 1 : Nat) : Int) < ((k + 1 : Nat) : Int)) = false:=by simp
     obtain ⟨Y1,hY1⟩ : ∃ Y,wj.alloc (.cells #[.int .i64 1] 2) = Y:=⟨_,rfl⟩
     have hBY : Below wj.heap.size wj Y1:=by rw [<- hY1];exact (Below.refl _ _).alloc (Nat.le_refl _) _
     have hnw : ∀ (j : Nat) (u : Value),[Value.int .i64 1][j]? = some u -> Y1.cell? ((⟨wj.heap.size,0,none⟩ : Addr).add j) = some u:=by rw [<- hY1];exact Zjg wj 1 _
     obtain ⟨gz,hgz⟩ : ∃ g,wj.heap.size = g:=⟨_,rfl⟩;rw [hgz] at hnw;have hOY:=Za (hO.out.below hBY);have hjY:=Za (hBj.out.trans (hBY.mono hBj.out.size));have hsz : Hid (b1 <= Y1.heap.size):=Za (by rw [<- hb1.out];exact hjY.out.size);replace hnw:=Za hnw;clear hO hBY;go_wp2_with ((try rw [hY1]);(try rw [hgz]);at_builtin;refine wpList_append_own _ rfl (.tmp 45) (.tmp 46) 64 rfl b1 2 iI (.int .i64 0) 1 8 Tryz.underlying64 ji jz0 jz1 jz2 rfl (by decide) _ _ _ rfl hOY.out ⟨gz,0,none⟩ 1 1 [.int .i64 1] rfl rfl hnw.out (by simp [Value.oneCell']) (by rw [Zfk];unfold maxLen;omega) (by rw [Zfk];omega) hsz.out ?_;intro v7 w7 hr7 hg7 _);have hlast : pg (k + 1) (k + 1) = 1:=Zpu (k + 1)
     have hO7 : OwnZ w7 b1 v7 (Zhg (k + 1) (k + 1 + 1)):=by rw [Zko,hlast];exact OwnZ.snoc hr7 rfl rfl rfl
     have hj7 : Below wi.heap.size wi w7:=hjY.out.grown hg7 hjY.out.size (fun q hq=>by rw [hb1.out];exact (World.ownsRow.lt hOY.out q hq).1);obtain ⟨A7,c7,rfl,hR7⟩:=hO7.row;have hw7:=Za (hBi.out.trans (hj7.mono hBi.out.size));replace hR7:=Za hR7;clear hO7 hj7 hr7 hg7 hlast hOY
     go_roundg (2 * N - (k + 1))
     case measure=>omega
     case rel=>exact ⟨k + 1,A7,c7,by omega,by go_num,rfl,hR7,hw7⟩
    | succ t'' =>
     obtain rfl : t'' = i - (k + 1):=by omega
     have hki : k + 1 <= i:=by omega
     have t4 : decide (((k + 1 : Nat) : Int) < ((i + 1 : Nat) : Int)) = true:=decide_eq_true (by omega);have t4' : decide ((k : Int) < (i : Int)) = true:=decide_eq_true (by omega);have t4'' : decide (k < i) = true:=decide_eq_true (by omega)
     have bk0 : (k : Int) < (i : Int) + 1:=by omega
     have bk1 : (k : Int) < (i : Int):=by omega
     have bk2 : (k : Int) + 1 < (i : Int) + 1:=by omega
     obtain ⟨g,rfl,hc⟩:=(hR.out.below hBj.out).2.2;have c1:=hc k (by omega);have c2:=hc (k + 1) (by omega)
     have bk3 : (0 : Int) <= (k : Int) + 1:=by omega
     have hkw : IntKind.i64.wrap (k : Int) = (k : Int):=IntWalk.i64_in _ (by omega);have p1:=Zd3 (i:=i) (by omega) k;have p2:=Zd3 (i:=i) (by omega) (k + 1);have p3:=Zlh i k;obtain ⟨x,hx⟩ : ∃ x,pg i k = x:=⟨_,rfl⟩;obtain ⟨y,hy⟩ : ∃ y,pg i (k + 1) = y:=⟨_,rfl⟩;rw [hx] at c1 p1 p3;rw [hy] at c2 p2 p3;have hxy : IntKind.i64.wrap (x + y) = x + y:=IntWalk.i64_in _ (by omega);have hpz : Hid (pg (i + 1) (k + 1) = x + y):=Za (by omega);obtain ⟨z,hz⟩ : ∃ z,x + y = z:=⟨_,rfl⟩;rw [hz] at hxy hpz;have hr : Below wj.heap.size wj wj.drew:=Zh (Below.refl _ _) 1;have hOd:=hO.out.below hr;have hBd:=hBj.out.trans (hr.mono hBj.out.size);obtain ⟨Y1,hY1⟩ : ∃ Y,wj.drew.alloc (.cells #[.int .i64 z] 2) = Y:=⟨_,rfl⟩;obtain ⟨gz,hgz⟩ : ∃ g,wj.drew.heap.size = g:=⟨_,rfl⟩
     have hBY : Below wj.drew.heap.size wj.drew Y1:=by rw [<- hY1];exact (Below.refl _ _).alloc (Nat.le_refl _) _
     have hnw : ∀ (j : Nat) (u : Value),[Value.int .i64 z][j]? = some u -> Y1.cell? ((⟨gz,0,none⟩ : Addr).add j) = some u:=by rw [<- hY1,<- hgz];exact Zjg wj.drew z _
     have hOY:=Za (hOd.below hBY);have hjY:=Za (hBd.trans (hBY.mono hBd.size));have hsz : Hid (b1 <= Y1.heap.size):=Za (by rw [<- hb1.out];exact hjY.out.size)
     have hSv : Hid (∀ wx,Below wi.heap.size wi wx -> wx.cell? ⟨g,k,none⟩ = some (.int .i64 x) /\ wx.cell? ⟨g,k + 1,none⟩ = some (.int .i64 y)):=Za (fun wx hbx=>by
      obtain ⟨g',e',hc'⟩:=(hR.out.below hbx).2.2
      cases e'
      exact ⟨by rw [hc' k (by omega),hx],by rw [hc' (k + 1) (by omega),hy]⟩)
     replace hnw:=Za hnw;replace p1:=Za p1;replace p2:=Za p2;replace p3:=Za p3;replace hBd:=Za hBd;replace hY1 : Hid ((wj.alloc (.cells #[.int .i64 z] 2)).drew = Y1):=Za hY1;replace hgz : Hid (wj.heap.size = gz):=Za hgz;clear hO hBY hr hc hOd;go_wp2_with fail;refine Z0 [] (fun wx=>wx.cell? ⟨g,k,none⟩ = some (.int .i64 x) /\ wx.cell? ⟨g,k + 1,none⟩ = some (.int .i64 y)) hmx (hSv.out _ hBd.out) (fun _=>?_);refine Zd (i:=0) (v:=?vt0) rfl (by kernel_rfl) (by kernel_rfl) (by kernel_rfl) (by kernel_rfl) (by kernel_rfl) (Or.inl ⟨by kernel_rfl,?hyt0⟩) (hSv.out _ hBd.out) ?rt0
     case hyt0=>(intro W2 hSw;(try dsimp only at hSw);go_simp;try with_reducible rfl)
     try simp only [Act.put,putL_a,putL_z,putL_s]
     refine Zd (i:=1) (v:=?vt1) rfl (by kernel_rfl) (by kernel_rfl) (by kernel_rfl) (by kernel_rfl) (by kernel_rfl) (Or.inl ⟨by kernel_rfl,?hyt1⟩) (hSv.out _ hBd.out) ?rt1
     case hyt1=>(intro W2 hSw;(try dsimp only at hSw);go_simp;try with_reducible rfl)
     try simp only [Act.put,putL_a,putL_z,putL_s]
     refine Zd (i:=2) (v:=?vt2) rfl (by kernel_rfl) (by kernel_rfl) (by kernel_rfl) (by kernel_rfl) (by kernel_rfl) (Or.inl ⟨by kernel_rfl,?hyt2⟩) (hSv.out _ hBd.out) ?rt2
     case hyt2=>(intro W2 hSw;(try dsimp only at hSw);go_simp;try with_reducible rfl)
     try simp only [Act.put,putL_a,putL_z,putL_s]
     refine Zd (i:=3) (v:=?vt3) rfl (by kernel_rfl) (by kernel_rfl) (by kernel_rfl) (by kernel_rfl) (by kernel_rfl) (Or.inl ⟨by kernel_rfl,?hyt3⟩) (hSv.out _ hBd.out) ?rt3
     case hyt3=>(intro W2 hSw;(try dsimp only at hSw);go_simp;try with_reducible rfl)
     try simp only [Act.put,putL_a,putL_z,putL_s]
     refine Zd (i:=4) (v:=?vt4) rfl (by kernel_rfl) (by kernel_rfl) (by kernel_rfl) (by kernel_rfl) (by kernel_rfl) (Or.inl ⟨by kernel_rfl,?hyt4⟩) (hSv.out _ hBd.out) ?rt4
     case hyt4=>(intro W2 hSw;(try dsimp only at hSw);go_simp;try with_reducible rfl)
     try simp only [Act.put,putL_a,putL_z,putL_s]
     refine Zd (i:=5) (v:=?vt5) rfl (by kernel_rfl) (by kernel_rfl) (by kernel_rfl) (by kernel_rfl) (by kernel_rfl) (Or.inl ⟨by kernel_rfl,?hyt5⟩) (hSv.out _ hBd.out) ?rt5
     case hyt5=>(intro W2 hSw;(try dsimp only at hSw);go_simp;try with_reducible rfl)
     try simp only [Act.put,putL_a,putL_z,putL_s]
     refine Zd (i:=6) (v:=?vt6) rfl (by kernel_rfl) (by kernel_rfl) (by kernel_rfl) (by kernel_rfl) (by kernel_rfl) (Or.inl ⟨by kernel_rfl,?hyt6⟩) (hSv.out _ hBd.out) ?rt6
     case hyt6=>(intro W2 hSw;(try dsimp only at hSw);go_simp;try with_reducible rfl)
     try simp only [Act.put,putL_a,putL_z,putL_s]
     refine Zd (i:=7) (v:=?vt7) rfl (by kernel_rfl) (by kernel_rfl) (by kernel_rfl) (by kernel_rfl) (by kernel_rfl) (Or.inl ⟨by kernel_rfl,?hyt7⟩) (hSv.out _ hBd.out) ?rt7
     case hyt7=>(intro W2 hSw;(try dsimp only at hSw);go_simp;try with_reducible rfl)
     try simp only [Act.put,putL_a,putL_z,putL_s]
     refine Zd (i:=8) (v:=?vt8) rfl (by kernel_rfl) (by kernel_rfl) (by kernel_rfl) (by kernel_rfl) (by kernel_rfl) (Or.inl ⟨by kernel_rfl,?hyt8⟩) (hSv.out _ hBd.out) ?rt8
     case hyt8=>(intro W2 hSw;(try dsimp only at hSw);go_simp;try with_reducible rfl)
     try simp only [Act.put,putL_a,putL_z,putL_s]
     refine Zd (i:=9) (v:=?vt9) rfl (by kernel_rfl) (by kernel_rfl) (by kernel_rfl) (by kernel_rfl) (by kernel_rfl) (Or.inl ⟨by kernel_rfl,?hyt9⟩) (hSv.out _ hBd.out) ?rt9
     case hyt9=>(intro W2 hSw;(try dsimp only at hSw);go_simp;try with_reducible rfl)
     try simp only [Act.put,putL_a,putL_z,putL_s]
     refine Zd (i:=10) (v:=?vt10) rfl (by kernel_rfl) (by kernel_rfl) (by kernel_rfl) (by kernel_rfl) (by kernel_rfl) (Or.inl ⟨by kernel_rfl,?hyt10⟩) (hSv.out _ hBd.out) ?rt10
     case hyt10=>(intro W2 hSw;(try dsimp only at hSw);go_simp;try with_reducible rfl)
     try simp only [Act.put,putL_a,putL_z,putL_s]
     refine Ze (i:=11) rfl (by kernel_rfl) (fun K hK=>?_);go_simp;(try rw [hY1.out]);(try rw [hgz.out]);refine hK.out _ _ (fun _=>hSv.out _ hjY.out) ?_;clear hK K hY1 hgz
     try simp only [Act.put,putL_a,putL_z,putL_s]
     refine Ze (i:=12) rfl (by kernel_rfl) (fun K hK=>?_);rw [if_pos (by rfl)];refine wp_append_own _ (.tmp 32) (.tmp 43) 64 rfl b1 2 iI (.int .i64 0) 1 8 Tryz.underlying64 ji jz0 jz1 jz2 rfl (by decide) _ _ _ rfl hOY.out ⟨gz,0,none⟩ 1 1 [.int .i64 z] rfl rfl hnw.out (by simp [Value.oneCell']) (by rw [Zfk];unfold maxLen;omega) (by rw [Zfk];omega) hsz.out ?_;intro v7 w7 hr7 hg7 _;have hj7 : Below wi.heap.size wi w7:=hjY.out.grown hg7 hjY.out.size (fun q hq=>by rw [hb1.out];exact (World.ownsRow.lt hOY.out q hq).1);refine hK.out _ _ (fun _=>hSv.out _ hj7) ?_;clear hK K
     try simp only [Act.put,putL_a,putL_z,putL_s]
     refine Ztx 1 [13] rfl (by kernel_rfl) (hSv.out _ hj7) ?_
     (refine tk1 (v:=?_) rfl (Or.inl ⟨by kernel_rfl,?_⟩) ?_;rotate_left;(· intro W2 _;go_simp;try with_reducible rfl);try simp only [Act.put,putL_a,putL_z,putL_s,putG_a,putG_s,putG_z])
     refine tk0 ?_;refine Zj (by kernel_rfl) ?_ _;refine OnlyNormal.normal ?_;have hO7 : Hid (OwnZ w7 b1 v7 (Zhg (i + 1) (k + 1 + 1))):=Za (by rw [Zko,hpz.out];exact OwnZ.snoc hr7 rfl rfl rfl);replace hj7:=Za hj7;clear hr7 hg7 hOY c1 c2 hz hxy;go_wp2_with fail
     go_roundg (i - (k + 1))
     case measure=>omega
     case rel=>exact ⟨k + 1,by omega,by go_num,hO7,hj7⟩
theorem LinePost.shape {rs : List RX} {s : St} {k step N : Int} {w w' : World} {e : Ending} (h : LinePost rs s k step N w e w') : ∃ A n c ss,e = .returned (.tuple #[.slice A n c,.int .i64 (lineE rs s k step N)]) /\ SL w' A n c ss /\ n = (if lineE rs s k step N = 0 then 2 * N.toNat + 1 else 0) /\ ss = (if lineE rs s k step N = 0 then lineS (Zf4 rs k) s step N.toNat else []):=by
 obtain ⟨-,⟨h0,A,c,rfl,hF⟩ | ⟨h0,rfl⟩⟩:=h
 ·exact ⟨A,_,c,_,by rw [h0],hF,by rw [if_pos h0],by rw [if_pos h0]⟩
 ·exact ⟨none,0,0,[],rfl,SL.nil _,by rw [if_neg h0],by rw [if_neg h0]⟩
def weiE (n : Int) : Int:=if 0 <= n /\ n <= 20 then 0 else 2
theorem WeiPost.shape {n : Int} {w w' : World} {e : Ending} (h : WeiPost n w e w') : ∃ A m c ds,e = .returned (.tuple #[.slice A m c,.int .i64 (weiE n)]) /\ XL w' A m c ds /\ m = (if 0 <= n /\ n <= 20 then 2 * n.toNat + 1 else 0) /\ ds = (if 0 <= n /\ n <= 20 then (Zgl n.toNat).map dfQ else []):=by
 obtain ⟨-,⟨h0,h1,A,c,rfl,hF⟩ | ⟨h0,rfl⟩⟩:=h
 ·exact ⟨A,_,c,_,by unfold weiE;rw [if_pos ⟨h0,h1⟩],hF.xl,by rw [if_pos ⟨h0,h1⟩],by rw [if_pos ⟨h0,h1⟩]⟩
 ·exact ⟨none,0,0,[],by unfold weiE;rw [if_neg h0],XL.nil _,by rw [if_neg h0],by rw [if_neg h0]⟩
theorem Zqw (s : St) (A : Option Addr) (n c : Nat) (rs : List RX) (kk step NN : Int) (w : World) (h : MXL w A n c rs) (hk1 : -9223372036854775808 <= kk) (hk2 : kk <= 9223372036854775807) (hd1 : -9223372036854775808 <= step) (hd2 : step <= 9223372036854775807) (hn1 : -9223372036854775808 <= NN) (hn2 : NN <= 9223372036854775807) :
    Calls Tryz.prog 4 #[.agg #[.int .i64 s.t,.int .i64 s.p0,.int .i64 s.p1,.int .i64 s.p2,.int .i64 s.v0,.int .i64 s.v1,.int .i64 s.v2],.slice A n c,.int .i64 kk,.int .i64 step,.int .i64 NN] w fun e w'=>e = .returned (.bool true) /\ Below w.heap.size w w':=by
 have hcm:=h.2.2.1;have hnc:=h.2.1;unfold maxLen at hcm;obtain ⟨E,hE⟩ : ∃ E,lineE rs s kk step NN = E:=⟨_,rfl⟩;obtain ⟨G,hG⟩ : ∃ E,weiE NN = E:=⟨_,rfl⟩;obtain ⟨X,hX⟩ : ∃ E,sgV rs kk = E:=⟨_,rfl⟩;obtain ⟨Z,hZ⟩ : ∃ E,sgE rs kk = E:=⟨_,rfl⟩;replace hE:=Za hE;replace hG:=Za hG;replace hX:=Za hX;replace hZ:=Za hZ;have hBB : Hid (Below w.heap.size w w):=Za (Below.refl _ _);replace h:=Za h;obtain ⟨g1,hg2⟩ : ∃ g,w.heap.size = g:=⟨_,rfl⟩;obtain ⟨V3,hV4,q5,hb6⟩:=Zh5 (w:=w) 46 #[.int .i64 s.t,.int .i64 s.p0,.int .i64 s.p1,.int .i64 s.p2,.int .i64 s.v0,.int .i64 s.v1,.int .i64 s.v2];rw [hg2] at q5;replace h:=Za (h.out.below hb6);have hB7:=Za (hBB.out.trans (hb6.mono hBB.out.size));clear hBB;clear hb6;replace q5:=Za q5;go_enter Tryz.func4,Tryz.ntmps4;go_wp2_with fail;(try rw [hg2]);(try rw [hV4]);clear hV4;replace hg2:=Za hg2;refine (Zlr A n c rs V3 h.out).mono ?_;rintro e w8 ⟨b,rfl,hb1,hcalm⟩;replace h:=Za (h.out.below hb1);replace q5:=Za (Zb hb1 q5.out);have hB9:=Za (hB7.out.trans (hb1.mono hB7.out.size));clear hB7;clear hb1
 cases b with
 | true =>
  go_wp2_with fail;go_ret;exact ⟨rfl,hB9.out⟩
 | false =>
  have hf:=(hcalm rfl).2
  have hn10 : n <= 10:=by rw [<- h.out.1];exact (hcalm rfl).1
  have hFC:=Za (FacC.of h.out hf (fun h6=>by
   rcases (show n = 0 \/ n = 1 \/ n = 2 \/ n = 3 \/ n = 4 \/ n = 5 \/ n = 6 by omega) with rfl | rfl | rfl | rfl | rfl | rfl | rfl <;> omega))
  replace hf:=Za hf;obtain ⟨c0,c1,c2,c3,c4,c5,c6⟩:=Zaf q5.out;clear hcalm;go_wp2_with fail;refine (Zsc s A n c rs kk step NN w8 h.out hFC.out hf.out hk1 hk2 hd1 hd2 hn1 hn2).mono ?_;rintro e w10 hP;have hb1:=hP.1;obtain ⟨A1,m1,k1,s1,rfl,hS1,em1,es1⟩:=hP.shape;rw [hE.out];replace h:=Za (h.out.below hb1);replace q5:=Za (Zb hb1 q5.out);have hB11:=Za (hB9.out.trans (hb1.mono hB9.out.size));clear hB9;clear hP hb1;replace hS1:=Za hS1;clear c0 c1 c2 c3 c4 c5 c6;obtain ⟨c0,c1,c2,c3,c4,c5,c6⟩:=Zaf q5.out;replace em1:=Za em1;replace es1:=Za es1;go_wp2_with fail;refine (Zrb s A n c rs kk step NN w10 h.out hFC.out hf.out hk1 hk2 hd1 hd2 hn1 hn2).mono ?_;rintro e w12 hP;have hb1:=hP.1;obtain ⟨A2,m2,k2,s2,rfl,hS2,em2,es2⟩:=hP.shape;rw [hE.out];replace h:=Za (h.out.below hb1);replace q5:=Za (Zb hb1 q5.out);replace hS1:=Za (hS1.out.below hb1);have hB13:=Za (hB11.out.trans (hb1.mono hB11.out.size));clear hB11;clear hP hb1;replace hS2:=Za hS2;have e1 : s2 = s1:=es2.trans es1.out.symm;subst e1;clear em1 es1 em2 es2 c0 c1 c2 c3 c4 c5 c6;go_wp2_with fail;refine (Zl6 NN w12 hn1 hn2).mono ?_;rintro e w14 hP;have hb1:=hP.1;obtain ⟨A3,m3,k3,ds,rfl,hF3,em3,es3⟩:=hP.shape;rw [hG.out];replace h:=Za (h.out.below hb1);replace q5:=Za (Zb hb1 q5.out);replace hS1:=Za (hS1.out.below hb1);replace hS2:=Za (hS2.out.below hb1);have hB15:=Za (hB13.out.trans (hb1.mono hB13.out.size));clear hB13;clear hP hb1;replace hF3:=Za hF3;replace em3:=Za em3;replace es3:=Za es3;go_wp2_with fail
  refine (Zmf NN w14 hn1 hn2).mono ?_;rintro e w16 hP;have hb1:=hP.1;obtain ⟨A4,m4,k4,es,rfl,hF4,em4,es4⟩:=hP.shape;rw [hG.out];replace h:=Za (h.out.below hb1);replace q5:=Za (Zb hb1 q5.out);replace hS1:=Za (hS1.out.below hb1);replace hS2:=Za (hS2.out.below hb1);replace hF3:=Za (hF3.out.below hb1);have hB17:=Za (hB15.out.trans (hb1.mono hB15.out.size));clear hB15;clear hP hb1;replace hF4:=Za hF4;have e1 : m4 = m3:=em4.trans em3.out.symm;have e2 : es = ds:=es4.trans es3.out.symm;subst e1 e2;clear em3 es3 em4 es4;go_wp2_with fail;refine (Zps A n c rs kk w16 h.out hFC.out hk1 hk2).mono ?_;rintro e w18 ⟨rfl,hb1⟩;replace h:=Za (h.out.below hb1);replace q5:=Za (Zb hb1 q5.out);replace hS1:=Za (hS1.out.below hb1);replace hS2:=Za (hS2.out.below hb1);replace hF3:=Za (hF3.out.below hb1);replace hF4:=Za (hF4.out.below hb1);have hB19:=Za (hB17.out.trans (hb1.mono hB17.out.size));clear hB17;clear hb1;rw [hX.out,hZ.out];go_wp2_with fail;refine (Zqk Zsw A n c rs kk w18 h.out hFC.out hk1 hk2).mono ?_;rintro e w20 ⟨rfl,hb1⟩;replace h:=Za (h.out.below hb1);replace q5:=Za (Zb hb1 q5.out);replace hS1:=Za (hS1.out.below hb1);replace hS2:=Za (hS2.out.below hb1);replace hF3:=Za (hF3.out.below hb1);replace hF4:=Za (hF4.out.below hb1);have hB21:=Za (hB19.out.trans (hb1.mono hB19.out.size));clear hB19;clear hb1;rw [hX.out,hZ.out];clear hFC hf hX hZ hE hG;clear h;go_wp2_with fail;refine (Zmm A1 A2 _ _ k1 k2 _ _ w20 hS1.out hS2.out).mono ?_;rintro e w22 ⟨b,rfl,hbe,hb1⟩;replace q5:=Za (Zb hb1 q5.out)
  replace hS1:=Za (hS1.out.below hb1);replace hS2:=Za (hS2.out.below hb1);replace hF3:=Za (hF3.out.below hb1);replace hF4:=Za (hF4.out.below hb1);have hB23:=Za (hB21.out.trans (hb1.mono hB21.out.size));clear hB21;clear hb1;obtain rfl : b = true:=hbe.2 rfl;clear hbe;go_wp2_with fail;refine (Zlf A3 A4 _ k3 k4 _ w22 hF3.out hF4.out).mono ?_;rintro e w24 ⟨rfl,hb1⟩;replace q5:=Za (Zb hb1 q5.out);replace hS1:=Za (hS1.out.below hb1);replace hS2:=Za (hS2.out.below hb1);replace hF3:=Za (hF3.out.below hb1);replace hF4:=Za (hF4.out.below hb1);have hB25:=Za (hB23.out.trans (hb1.mono hB23.out.size));clear hB23;clear hb1;go_wp2_with fail;go_ret;exact ⟨rfl,hB25.out⟩
open Go.ChangeShapes Go.WideShapes Go.Deep Go.RowKit
section
variable {H : Type} {enc : TypeId × Value -> H} {P : Program} {w : World} {base : Nat} {spare : Nat -> Bool} {held : Bool}
end
section
variable {H : Type} {enc : TypeId × Value -> H} {P : Program}
theorem Zjv {f : Func} {s : ChangeSpec} {apart fresh handsOn again : Bool} {W W' : World} {args : Array Value} {v : Value} {ds gs : List (DataW H)} {before pa pv : List MemPlace}
    (hW : DataW.Whole enc P f.params.toList s.vars apart W args.toList ds gs before)
    (hres : ∀ (b : Nat) (sp : Nat -> Bool) (hd : Bool),DataW.TrodAll enc P W' b sp hd f.resultTypes.toList (v.resultList f.resultTypes.size) (s.fn H (ds ++ gs)).results [])
    (hargs : ∀ sp : Nat -> Bool,(∀ p ∈ before,sp p.block = true) -> DataW.TrodAll enc P W' 0 sp true f.params.toList args.toList (s.fn H (ds ++ gs)).args pa)
    (hvars : ∀ sp : Nat -> Bool,(∀ p ∈ before,sp p.block = true) -> DataW.TrodVars enc P W' sp s.vars (s.fn H (ds ++ gs)).vars pv)
    (hps : before = pa ++ pv) (hb : Below W.heap.size W W')
    (hok : ∀ (j : Nat) (t : TypeId) (r : Value),f.resultTypes[j]? = some t -> (v.resultList f.resultTypes.size)[j]? = some r -> Value.okWide P W' .any 0 t r) :
    s.post enc P f apart fresh handsOn again W args v W':=by
 have hlt : ∀ p ∈ before,p.block < W.heap.size:=fun p hp=>hW.lt p hp
 have hold : ∀ p ∈ before,(fun b=>decide (b < W.heap.size)) p.block = true:=fun p hp=>by simpa using hlt p hp
 refine ⟨ds,gs,before,[],pa,pv,hW,hres _ _ _,hargs _ hold,hvars _ hold,World.keptBut_mono (fun p hp=>⟨hp,?_⟩) (hb.frame (· ∈ before)),fun _=>?_⟩
 ·rw [hps,List.mem_append] at hp
  exact Or.inr hp
 ·obtain ⟨_,_,_,_,_,hz,hn⟩:=hW
  refine ⟨hok,_,_,([] ++ pa) ++ pv,⟨[] ++ pa,pv,trodAll_append (hargs _ (fun _ _=>rfl)) (hres _ _ _),hvars _ (fun _ _=>rfl),rfl,?_,?_⟩,?_⟩
  ·intro b off hp
   have hin : MemPlace.cell b off ∈ before:=by rw [hps];simpa using hp
   rw [hb.frozen (hlt _ hin)];exact hz b off hin
  ·intro ha
   have:=hn ha;rw [hps] at this
   simpa using this
  ·intro p hp _
   rw [hps]
   simpa using hp
end
theorem Zpw {α : Type} (P : Nat -> α -> Prop) (n : Nat) (h : ∀ i,i < n -> ∃ e,P i e) : ∃ es : List α,es.length = n /\ ∀ (k : Nat) (e : α),es[k]? = some e -> P k e:=by
 induction n with
 | zero=>exact ⟨[],rfl,fun k e h=>by simp at h⟩
 | succ n ih =>
  obtain ⟨es,h1,h2⟩:=ih fun i hi=>h i (by omega)
  obtain ⟨e,he⟩:=h n (by omega);refine ⟨es ++ [e],by simp [h1],fun k e' hk=>?_⟩
  rcases Nat.lt_or_ge k es.length with hlt | hge
  ·rw [List.getElem?_append_left hlt] at hk;exact h2 k e' hk
  ·rw [List.getElem?_append_right hge] at hk
   rcases Nat.eq_or_lt_of_le hge with h0 | h0
   ·rw [show k - es.length = 0 by omega] at hk
    simp at hk
    subst hk;rw [<- h0,h1];exact he
   ·rw [List.getElem?_eq_none (by simp;omega)] at hk
    cases hk
theorem Zgc {w : World} {a : Addr} {v : Value} (h : w.cell? a = some v) : a = ⟨a.block,a.off,none⟩:=by
 obtain ⟨b,o,s⟩:=a
 cases s with
 | none=>rfl
 | some s =>
  exfalso
  unfold World.cell? at h
  simp at h
  split at h <;> simp at h
section
variable {H : Type} {enc : TypeId × Value -> H} {w : World} {base : Nat} {spare : Nat -> Bool} {held : Bool}
end
end Go.Proofs.YtaioanjcjijckaaGreat
