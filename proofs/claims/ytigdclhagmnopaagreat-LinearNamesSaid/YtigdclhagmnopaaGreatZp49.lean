/- For the laws of linear without the reference: square, -/
import Derived.Test.YtigdclhagmnopaaGreatZp48
set_option maxRecDepth 100000
set_option maxHeartbeats 8000000
set_option linter.unusedSimpArgs false
set_option linter.unusedVariables false
namespace Go.Proofs.YtigdclhagmnopaaGreat
open Go.RowKit
attribute [local go_sem] Zh
theorem MXL.one {w : World} {g : Nat} {t : TypeId} {B : Option Addr} {n c : Nat} {es : List FX} (h : Blk w g t #[.slice B n c]) (hb : FXL w B n c es) : MXL w (some ⟨g,0,none⟩) 1 1 [⟨B,n,c,es⟩]:=
 ⟨rfl,Nat.le_refl _,by unfold maxLen;omega,fun r hr=>by
  rw [List.mem_singleton] at hr;subst hr;exact hb,fun _=>⟨_,0,rfl,fun k r hk=>by
  have hk0 : k = 0:=by have:=(List.getElem?_eq_some_iff.1 hk).1;simp at this;exact this
  subst hk0
  cases hk
  have:=h.cell 0
  simpa using this⟩⟩
theorem SmE.smN {k : Nat} {Q : List (List Rat)} (h : SmE k Q) (i j : Nat) : SmN (k + 1) (k + 1) (Zm Q i j):=⟨Nat.lt_of_le_of_lt (h i j).1 (Zb5 (by omega)),Nat.lt_of_le_of_lt (h i j).2 (Zb5 (by omega))⟩
theorem b40_out {least x : Int} (h : Znj least x = false) (h0 : -1099511627776 <= least) : B40 x:=by
 unfold Znj at h;simp only [Bool.or_eq_false_iff,decide_eq_false_iff_not] at h;unfold B40;omega
theorem Zkf {least : Int} {l : List Int} (h : Zhd least l = false) (h0 : -1099511627776 <= least) (i : Nat) : B40 (l[i]?.getD 0):=by
 unfold Zhd at h;rw [List.any_eq_false] at h
 by_cases hi : i < l.length
 ·rw [List.getElem?_eq_getElem hi]
  exact b40_out (by simpa using h _ (List.getElem_mem hi)) h0
 ·rw [List.getElem?_eq_none (by omega)]
  show (0 : Int).natAbs <= _
  decide
theorem Zrn {rs : List RI} {rr ws : List Int} (h : Zce rs rr ws = 0) : (∀ r k,B40 (Zas rs k r)) /\ (∀ r,B40 (Zap rr r)) /\ ∀ r,B40 (Zap ws r):=by
 obtain ⟨f1,f2,f3,f4,f5,f6,f7,f8⟩:=Zfc h;refine ⟨fun r k=>?_,fun r=>Zkf f7 (by decide) r,fun r=>Zkf f6 (by decide) r⟩;unfold Zas
 by_cases hr : r < rs.length
 ·rw [List.getElem?_eq_getElem hr]
  exact Zkf (f8 _ (List.getElem_mem hr)).2 (by decide) k
 ·rw [List.getElem?_eq_none (l:=rs) (i:=r) (by omega)]
  show (0 : Int).natAbs <= _
  decide
def Zhx (rs : List RI) (ws : List Int) (n : Nat) : Nat -> Nat -> Rat:=fun i j=>((Zbd ws (Zas rs i) (Zas rs j) n : Int) : Rat)
section
variable {rs : List RI} {rr ws : List Int} {n m : Nat}
theorem Zfl {i j : Nat} (hi : i < m) : Zm (Zbj rs rr ws n m) i j = if j < m then Zhx rs ws n i j else if j = m then ((Zbd ws (Zas rs i) (Zap rr) n : Int) : Rat) else 0:=by
 unfold Zm Zbj;rw [List.getElem?_map,List.getElem?_range hi,Option.map_some,Option.getD_some]
 by_cases hj : j < m
 ·rw [if_pos hj,Zpg hj];rfl
 ·rw [if_neg hj]
  by_cases hjm : j = m
  ·subst hjm;rw [if_pos rfl,Zmy];rfl
  ·rw [if_neg hjm,List.getElem?_eq_none (by rw [Ze0];omega)];rfl
theorem Zm5 : (Zbj rs rr ws n m).length = m:=by unfold Zbj;simp
theorem Zs8 {i : Nat} (hi : i < m) : ((Zbj rs rr ws n m)[i]?.getD []).length = m + 1:=by
 unfold Zbj;rw [List.getElem?_map,List.getElem?_range hi,Option.map_some,Option.getD_some,Ze0]
theorem Zse (hn : n <= 200) (hE : Zce rs rr ws = 0) (i j : Nat) : BndQ (pw 4) (Zm (Zbj rs rr ws n m) i j):=by
 obtain ⟨b1,b2,b3⟩:=Zrn hE
 by_cases hi : i < m
 ·rw [Zfl hi]
  by_cases hj : j < m
  ·rw [if_pos hj];exact ⟨_,rfl,Zgl hn fun r _=>⟨b3 r,b1 r i,b1 r j⟩⟩
  ·rw [if_neg hj]
   by_cases hjm : j = m
   ·rw [if_pos hjm];exact ⟨_,rfl,Zgl hn fun r _=>⟨b3 r,b1 r i,b2 r⟩⟩
   ·rw [if_neg hjm];exact BndQ.zero
 ·unfold Zm
  rw [List.getElem?_eq_none (l:=Zbj rs rr ws n m) (by rw [Zm5];omega)];exact BndQ.zero
theorem BndQ.den {B : Nat} {q : Rat} (h : BndQ B q) : q.den = 1:=by
 obtain ⟨z,rfl,-⟩:=h;exact Rat.den_intCast z
theorem BndQ.num {B : Nat} {q : Rat} (h : BndQ B q) : q.num.natAbs <= B:=by
 obtain ⟨z,rfl,hz⟩:=h;rw [Rat.num_intCast];exact hz
end
theorem Zns {B : Nat} {R : List (List Rat)} (h : ∀ i j,BndQ B (Zm R i j)) (i k : Nat) : denTo (R[i]?.getD []) k = 1:=by
 have h1:=Zn9 (R[i]?.getD []) (D:=1) (fun j=>by
  have:=(h i j).den;unfold Zm at this
  rw [this];exact Nat.le_refl _) k
 have h2:=Zdo (R[i]?.getD []) k;rw [Nat.one_pow] at h1;omega
theorem Ztb {B : Nat} {R : List (List Rat)} (h : ∀ i j,BndQ B (Zm R i j)) (i j : Nat) : (Z7 (Zl R) i j).natAbs <= B:=by
 have h1:=Zfn R i j;obtain ⟨z,hz,hb⟩:=h i j;have hd : denAt R i = 1:=Zns h i _;rw [hd,hz] at h1
 have h2 : ((Z7 (Zl R) i j : Int) : Rat) = (z : Rat):=by
  rw [h1];have : ((1 : Nat) : Rat) = 1:=rfl;rw [this];grind
 rw [Rat.intCast_inj.1 h2];exact hb
theorem Znz {b n m : Nat} {R : List (List Rat)} (h : ∀ i j,BndQ (pw b) (Zm R i j)) (hl : R.length = n) (hn : n <= 900) (hrow : ∀ i,i < n -> (R[i]?.getD []).length = m) (hnm : n <= m) (h1 : (b + 1) * n < 189) (hb : b < 900) :
    okZ (pw 200) m n 0 0 (Zl R) 1 /\ okR (pw 200) (pw 200) m n 0 0 R /\ Zd2 R n m /\ (Z0 n 0 0 (Zl R) false 1).2.1 = (Zab n 0 0 R false).2.1 /\ (Zab n 0 0 R false).2.1 <= n /\
    ((Zab n 0 0 R false).2.1 < n -> Z6 n (Zm R) = 0) /\
    ((Zab n 0 0 R false).2.1 = n -> Z6 n (Zm R) ≠ 0 /\ ∃ X : Nat -> Nat -> Rat,Zea (Zm (Zab n 0 0 R false).1) X n m /\ Zea (fun i j=>(Z7 (Z0 n 0 0 (Zl R) false 1).1 i j : Rat)) X n m /\ SolQ (Zm R) X n m):=by
 have hbd:=Zft (b:=b) n hn;obtain ⟨B,hB⟩ : ∃ B,Zay (pw b) n = B:=⟨_,rfl⟩;rw [hB] at hbd;obtain ⟨d,hd⟩ : ∃ d,(b + 1) * n = d:=⟨_,rfl⟩;rw [hd] at hbd h1;have bb : B * B <= pw (d + d):=Zdz hbd hbd
 have g1 : (n + 1) * (B * B) < pw 400:=by
  have h6 : (n + 1) * (B * B) <= pw (1 + (d + d)):=Zdz (k_pw (by omega)) bb;exact Nat.lt_of_le_of_lt h6 (Zb5 (by omega))
 have g2 : B * B * 1 < pw 400:=by rw [Nat.mul_one];exact Nat.lt_of_le_of_lt bb (Zb5 (by omega))
 have g3 : B * 1 < pw 300:=by rw [Nat.mul_one];exact Nat.lt_of_le_of_lt hbd (Zb5 (by omega))
 have hs:=Zlo (B:=pw b) (S:=1) (Zbn _) (Nat.le_refl _) R hl hrow (fun i hi=>Nat.le_of_eq (Zns h i _)) (fun i j _=>Ztb h i j) hnm (by rw [hB];exact g1) (by rw [hB];exact g2) (by rw [hB];exact g3);rw [hB,Nat.mul_one] at hs;obtain ⟨o1,o2,o3,o4,o5,o6⟩:=hs;have p1 : B + 1 <= pw 200:=Nat.le_trans (Nat.add_le_add hbd (Zbn d)) (Nat.le_trans (Zkm d) (Zb9 (by omega)));have p2 : B < pw 200:=p1;refine ⟨Zfa p2 _ _ _ _ _ o1,Zgi p2 p2 _ _ _ _ o2,⟨fun i t hi ht=>?_,fun i j=>?_⟩,o3,o4,o5,fun hr=>?_⟩
 ·rw [Zns h];exact Nat.lt_of_lt_of_le Zd9 (Zb9 (by decide))
 ·exact Nat.lt_of_le_of_lt (h i j).num (Zb5 (by omega))
 ·obtain ⟨q1,X,q2,q3,q4,-⟩:=o6 hr
  exact ⟨q1,X,q2,q3,q4⟩
section
variable {rs : List RI} {rr ws : List Int} {n m : Nat}
theorem Zuo (hn : n <= 200) (hm : m <= 12) (hE : Zce rs rr ws = 0) : ∃ (full : Bool) (X : Nat -> Nat -> Rat),
    okZ (pw 200) (m + 1) m 0 0 (Zl (Zbj rs rr ws n m)) 1 /\ okR (pw 200) (pw 200) (m + 1) m 0 0 (Zbj rs rr ws n m) /\ Zd2 (Zbj rs rr ws n m) m (m + 1) /\
    (Z0 m 0 0 (Zl (Zbj rs rr ws n m)) false 1).2.1 = (Zab m 0 0 (Zbj rs rr ws n m) false).2.1 /\ (Zab m 0 0 (Zbj rs rr ws n m) false).2.1 <= m /\
    full = decide ((Zab m 0 0 (Zbj rs rr ws n m) false).2.1 = m) /\
    (full = true ↔ Z6 m (Zhx rs ws n) ≠ 0) /\
    (full = true -> Zea (Zm (Zab m 0 0 (Zbj rs rr ws n m) false).1) X m (m + 1) /\ Zea (fun i j=>(Z7 (Z0 m 0 0 (Zl (Zbj rs rr ws n m)) false 1).1 i j : Rat)) X m (m + 1) /\
     Zlf rs rr ws (fun j=>X j m) n m /\ Zne rs rr ws (fun j=>X j m) n m /\ ∃ D,0 < D /\ D <= pw (5 * m) /\ ∀ k,k < m -> CD D (pw (5 * m)) (X k m)):=by
 obtain ⟨b1,b2,b3⟩:=Zrn hE;obtain ⟨o1,o2,o3,o4,o5,o6,o7⟩:=Znz (b:=4) (n:=m) (m:=m + 1) (R:=Zbj rs rr ws n m) (fun i j=>Zse hn hE i j) Zm5 (by omega) (fun i hi=>Zs8 hi) (by omega) (by omega) (by omega)
 have hdet : Z6 m (Zm (Zbj rs rr ws n m)) = Z6 m (Zhx rs ws n):=Zau fun i j hi hj=>by rw [Zfl hi,if_pos hj]
 by_cases hr : (Zab m 0 0 (Zbj rs rr ws n m) false).2.1 = m
 ·obtain ⟨x1,X,x2,x3,x4⟩:=o7 hr
  have hN : Zlf rs rr ws (fun j=>X j m) n m:=fun i hi=>by
   have h6:=x4 i m hi (Nat.le_refl _) (by omega);rw [Zfl hi,if_neg (Nat.lt_irrefl _),if_pos rfl] at h6;rw [<- h6]
   exact Zz fun j hj=>by rw [Zfl hi,if_pos hj];rfl
  obtain ⟨D,d1,d2,d3⟩:=Zuu (B:=pw 4) (n:=m) (Q:=Zhx rs ws n) (x:=fun j=>X j m) (y:=fun i=>((Zbd ws (Zas rs i) (Zap rr) n : Int) : Rat))
   (fun a b ha hb=>⟨_,rfl,Zgl hn fun r _=>⟨b3 r,b1 r a,b1 r b⟩⟩) (fun a ha=>⟨_,rfl,Zgl hn fun r _=>⟨b3 r,b1 r a,b2 r⟩⟩) hN (by rw [<- hdet];exact x1)
  have hbd:=Zft (b:=4) m (by omega);have d4 : D <= pw (5 * m):=Nat.le_trans d2 hbd
  have d5 : ∀ k,k < m -> CD D (pw (5 * m)) (X k m):=fun k hk=>(d3 k hk).mono hbd
  refine ⟨true,X,o1,o2,o3,o4,o5,(decide_eq_true hr).symm,⟨fun _=>by rw [<- hdet];exact x1,fun _=>rfl⟩,fun _=>⟨x2,x3,hN,?_,D,d1,d4,d5⟩⟩;exact Zsc hn (by omega) d1 d4 (Nat.le_refl _) (by omega) d5 (fun r k _ _=>b1 r k) (fun r _=>b2 r) (fun r _=>b3 r)
 ·have hr' : (Zab m 0 0 (Zbj rs rr ws n m) false).2.1 < m:=by omega
  exact ⟨false,fun _ _=>0,o1,o2,o3,o4,o5,(decide_eq_false hr).symm,⟨fun h=>(by cases h),fun h=>absurd (by rw [<- hdet];exact o6 hr') h⟩,fun h=>(by cases h)⟩
end
def LeastD (w : World) (ds : List DF) (d : DF) (E : Int) (e : Ending) (w' : World) : Prop:=
 ∃ A0 n0 c0 A n c B m d1,e = .returned (.tuple #[.slice A0 n0 c0,.agg #[.bool d.na,.slice A n c,.bool d.nb,.slice B m d1],.int .i64 E]) /\ Below w.heap.size w w' /\ XL w' A0 n0 c0 ds /\ Lim w' A n c d.la /\ Lim w' B m d1 d.lb
theorem LeastD.of_bad {w w' : World} {e : Ending} {E : Int} (h : e = .returned (.tuple #[.slice none 0 0,.agg #[.bool false,.slice none 0 0,.bool false,.slice none 0 0],.int .i64 E]) /\ Below w.heap.size w w') : LeastD w [] dfZ E e w':=
 ⟨_,_,_,_,_,_,_,_,_,h.1,h.2,XL.nil _,Lim.nil _ _ _ (Nat.zero_le _),Lim.nil _ _ _ (Nat.zero_le _)⟩
theorem LeastD.of_full {full : Bool} {xs : List Rat} {q : Rat} {w w' : World} {e : Ending} (hf : full = true) (h : Zp0 full xs q w e w') : LeastD w (xs.map dfQ) (dfQ q) 0 e w':=by
 rcases h with ⟨h1,-⟩ | ⟨-,A0,n0,c0,na,A,n,c,nb,B,m,d,e1,hb,hO,hfr⟩
 ·rw [hf] at h1;cases h1
 ·have hx:=hO.xl
  have h1:=hfr.1.1;have h2:=hfr.2.1;have h3:=hfr.2.2.2;rw [Int.natAbs_natCast] at h3
  have h4 : nb = false:=by rw [h2];exact decide_eq_false (by omega)
  subst h1 h4;exact ⟨_,_,_,_,_,_,_,_,_,e1,hb,hx,hfr.1.2.2,h3⟩
theorem LeastD.of_short {full : Bool} {xs : List Rat} {q : Rat} {w w' : World} {e : Ending} (hf : full = false) (h : Zp0 full xs q w e w') : LeastD w [] dfZ 22 e w':=by
 rcases h with ⟨-,h1⟩ | ⟨h1,-⟩
 ·exact LeastD.of_bad h1
 ·rw [hf] at h1;cases h1
theorem Znp {w : World} {A : Option Addr} {n c : Nat} {rs : List RI} {rr ws : List Int} (h : MIL w A n c rs) (hE : Zce rs rr ws = 0) : 0 < n /\ n <= 200 /\ 0 < n0I rs /\ n0I rs <= 12 /\ rr.length = n /\ ws.length = n /\ ∀ r ∈ rs,r.n = n0I rs:=by
 obtain ⟨f1,f2,f3,f4,f5,f6,f7,f8⟩:=Zfc hE;have hl:=h.1
 have hn0 : 0 < n:=by
  rcases Nat.eq_zero_or_pos n with h0 | h0
  ·exfalso
   have : rs = []:=List.eq_nil_of_length_eq_zero (by omega);subst this;exact f3 rfl
  ·exact h0
 have hm12 : n0I rs <= 12:=by
  obtain ⟨_,_,r0,_,hr0,_⟩:=h.at_ (i:=0) hn0;have h1:=List.mem_of_getElem? hr0;rw [<- (f8 r0 h1).1];exact f2 r0 h1
 exact ⟨hn0,by omega,by omega,hm12,by omega,by omega,fun r hr=>(f8 r hr).1⟩
theorem Zrd (E0 : Int) (Q : List (List Rat)) (n : Nat) (hq : E0 = 0 -> SmallQ Q n) : ∃ d : DF,(E0 = 0 -> d = dfQ (Z6 n (Zm Q))) /\ ∀ (w : World) (A : Option Addr) (c : Nat) (rs : List RX),MXL w A n c rs -> sqE rs = E0 -> qM rs = Q ->
    Calls Tryz.prog 24 #[.slice A n c] w (FracD w d E0):=by
 by_cases hE : E0 = 0
 ·subst hE
  obtain ⟨g1,g2,g3⟩:=(hq rfl).det;refine ⟨dfQ (Z6 n (Zm Q)),fun _=>rfl,fun w A c rs h hs hqm=>?_⟩;rw [<- g3];subst hqm
  exact (Zrt A n c rs w h hs g1).mono fun e w' he=>FracD.of_fr he
 ·refine ⟨dfZ,fun h=>absurd h hE,fun w A c rs h hs hqm=>(Zod A n c rs w h E0 hs hE).mono fun e w' he=>?_⟩
  exact ⟨_,_,_,_,_,_,he.1,he.2,Lim.nil _ _ _ (Nat.zero_le _),Lim.nil _ _ _ (Nat.zero_le _)⟩
theorem Zmv (E0 : Int) (V : Bool) (Q : List (List Rat)) (b : List Rat) (n nb : Nat) (hq : E0 = 0 -> SmallQ Q n) (hb : V = true -> ∀ i : Nat,(b[i]?.getD 0).num.natAbs <= pw 2 /\ (b[i]?.getD 0).den <= pw 2) : ∃ (E : Int) (ds : List DF),
    (E0 = 0 -> V = true -> nb = n -> (Z6 n (Zm Q) = 0 /\ E = 18 /\ ds = []) \/ (Z6 n (Zm Q) ≠ 0 /\ E = 0 /\ ∃ X : Nat -> Rat,ds = ((List.range n).map X).map dfQ /\ (∀ i,i < n -> sumQ n (fun j=>Zm Q i j * X j) = b[i]?.getD 0) /\ ∀ i,(X i).num.natAbs <= pw ((2 * (n + 1) + 2 + 1) * n) /\ (X i).den <= pw ((2 * (n + 1) + 2 + 1) * n))) /\
    ∀ (w : World) (A B : Option Addr) (c cb : Nat) (rs : List RX) (es : List FX),MXL w A n c rs -> FXL w B nb cb es -> sqE rs = E0 -> qM rs = Q -> Zbs es = V -> es.map FX.q = b ->
    Calls Tryz.prog 26 #[.slice A n c,.slice B nb cb] w (RowD w ds E):=by
 have none_ : ∀ (E : Int) (w w' : World) (e : Ending),(e = .returned (.tuple #[.slice none 0 0,.int .i64 E]) /\ Below w.heap.size w w') -> RowD w [] E e w':=fun E w w' e h=>⟨_,_,_,h.1,h.2,XL.nil _⟩
 by_cases hE : E0 = 0
 ·subst hE
  by_cases hv : nb ≠ n \/ V = false
  ·refine ⟨8,[],fun _ h1 h2=>?_,fun w A B c cb rs es h hbx hs hqm hvv _=>?_⟩
   ·rcases hv with hv | hv
    ·exact absurd h2 hv
    ·rw [hv] at h1;cases h1
   ·rw [<- hvv] at hv
    exact (Zjo A B n c nb cb rs es w h hbx hs hv).mono fun e w' he=>none_ _ _ _ _ he
  ·obtain ⟨rfl,rfl⟩ : nb = n /\ V = true:=⟨Classical.byContradiction fun h=>hv (.inl h),by cases V with
     | true=>rfl
     | false=>exact absurd (.inr rfl) hv⟩
   have hS:=hq rfl;have h5:=hS.2.1;obtain ⟨o1,o2,o3,o4,o5,o6,o7⟩:=hS.solveB (hb rfl)
   have hdet : Z6 nb (Zm (wideB Q b nb nb)) = Z6 nb (Zm Q):=Zau fun i j hi hj=>by rw [Zfe hS.2.2.2.1 hS.2.2.1,if_pos hi,if_pos hj]
   by_cases hr : (Zab nb 0 0 (wideB Q b nb nb) false).2.1 = nb
   ·obtain ⟨x1,X,x2,x3,x4,x5⟩:=o7 hr
    refine ⟨0,((List.range nb).map fun j=>X j nb).map dfQ,fun _ _ _=>.inr ⟨by rw [<- hdet];exact x1,rfl,fun j=>X j nb,rfl,fun i hi=>?_,fun i=>x5 i nb⟩,fun w A B c cb rs es h hbx hs hqm hvv hbq=>?_⟩
    ·have h6:=x4 i nb hi (Nat.le_refl _) (by omega)
     rw [Zfe hS.2.2.2.1 hS.2.2.1,if_pos hi,if_neg (Nat.lt_irrefl _),if_pos rfl] at h6;rw [<- h6]
     exact Zz fun j hj=>by rw [Zfe hS.2.2.2.1 hS.2.2.1,if_pos hi,if_pos hj]
    ·subst hqm hbq
     refine (Zsd A B nb c cb rs es w h hbx hs hvv (by omega) o1 o3 (o4.trans hr) X x3).mono fun e w' he=>?_
     ·obtain ⟨v,rfl,hbw,hO⟩:=he
      obtain ⟨A1,n1,c1,rfl,hx⟩:=hO.xl;exact ⟨_,_,_,rfl,hbw,hx⟩
   ·have hr' : (Zab nb 0 0 (wideB Q b nb nb) false).2.1 < nb:=by omega
    refine ⟨18,[],fun _ _ _=>.inl ⟨by rw [<- hdet];exact o6 hr',rfl,rfl⟩,fun w A B c cb rs es h hbx hs hqm hvv hbq=>?_⟩;subst hqm hbq
    exact (Zte A B nb c cb rs es w h hbx hs hvv (by omega) o1 o3 (by rw [o4];exact hr')).mono fun e w' he=>none_ _ _ _ _ he
 ·refine ⟨E0,[],fun h=>absurd h hE,fun w A B c cb rs es h hbx hs hqm hvv _=>?_⟩
  exact (Zpv A B n c nb cb rs es w h hbx E0 hs hE).mono fun e w' he=>none_ _ _ _ _ he
theorem Zpk (E0 : Int) (Q : List (List Rat)) (n : Nat) (hq : E0 = 0 -> SmallQ Q n) : ∃ (E : Int) (D : List (List DF)),
    (E0 = 0 -> (Z6 n (Zm Q) = 0 /\ E = 18 /\ D = []) \/ (Z6 n (Zm Q) ≠ 0 /\ E = 0 /\ ∃ X : Nat -> Nat -> Rat,D = ((List.range n).map fun i=>(List.range n).map fun c=>X i c).map (fun r=>r.map dfQ) /\ (∀ i c,i < n -> c < n -> sumQ n (fun j=>Zm Q i j * X j c) = if i = c then 1 else 0) /\
     ∀ i c,(X i c).num.natAbs <= pw ((2 * (n + n) + 2 + 1) * n) /\ (X i c).den <= pw ((2 * (n + n) + 2 + 1) * n))) /\
    ∀ (w : World) (A : Option Addr) (c : Nat) (rs : List RX),MXL w A n c rs -> sqE rs = E0 -> qM rs = Q ->
    Calls Tryz.prog 28 #[.slice A n c] w (MatD w D E):=by
 have none_ : ∀ (E : Int) (w w' : World) (e : Ending),(e = .returned (.tuple #[.slice none 0 0,.int .i64 E]) /\ Below w.heap.size w w') -> MatD w [] E e w':=fun E w w' e h=>⟨_,_,_,h.1,h.2,XM.nil _⟩
 by_cases hE : E0 = 0
 ·subst hE
  have hS:=hq rfl;have h5:=hS.2.1;have h0:=hS.1;obtain ⟨o1,o2,o3,o4,o5,o6,o7⟩:=hS.solveI
  have hdet : Z6 n (Zm (wideI Q n n 0)) = Z6 n (Zm Q):=Zau fun i j hi hj=>by rw [Zfr hS.2.2.2.1 hS.2.2.1,if_pos hi,if_pos hj]
  by_cases hr : (Zab n 0 0 (wideI Q n n 0) false).2.1 = n
  ·obtain ⟨x1,X,x2,x3,x4,x5⟩:=o7 hr
   have hsol : Zfd X n (n + n) = (List.range n).map fun i=>(List.range n).map fun c=>X i (n + c):=by unfold Zfd;rw [Nat.add_sub_cancel]
   refine ⟨0,((List.range n).map fun i=>(List.range n).map fun c=>X i (n + c)).map (fun r=>r.map dfQ),fun _=>.inr ⟨by rw [<- hdet];exact x1,rfl,fun i c=>X i (n + c),rfl,fun i c hi hc=>?_,fun i c=>x5 i (n + c)⟩,fun w A c rs h hs hqm=>?_⟩
   ·have h6:=x4 i (n + c) hi (by omega) (by omega)
    rw [Zfr hS.2.2.2.1 hS.2.2.1,if_pos hi,if_neg (by omega),Nat.add_sub_cancel_left,if_pos hc] at h6;rw [<- h6]
    exact Zz fun j hj=>by rw [Zfr hS.2.2.2.1 hS.2.2.1,if_pos hi,if_pos hj]
   ·subst hqm
    rw [<- hsol]
    refine (Zpn A n c rs w h hs (by omega) o1 o3 (o4.trans hr) X x3).mono fun e w' he=>?_
    ·obtain ⟨gO,L,rfl,hbw,hM,hLq⟩:=he
     have hl : L.length = n:=by rw [<- List.length_map (f:=RF.q),hLq];unfold Zfd;simp
     have h7:=(hM.mfl hl (Nat.le_refl n) (by unfold maxLen;omega)).xm;rw [hLq] at h7;exact ⟨_,_,_,rfl,hbw,h7⟩
  ·have hr' : (Zab n 0 0 (wideI Q n n 0) false).2.1 < n:=by omega
   refine ⟨18,[],fun _=>.inl ⟨by rw [<- hdet];exact o6 hr',rfl,rfl⟩,fun w A c rs h hs hqm=>?_⟩;subst hqm
   exact (Zop A n c rs w h hs (by omega) o1 o3 (by rw [o4];exact hr')).mono fun e w' he=>none_ _ _ _ _ he
 ·refine ⟨E0,[],fun h=>absurd h hE,fun w A c rs h hs hqm=>?_⟩
  exact (Znn A n c rs w h E0 hs hE).mono fun e w' he=>none_ _ _ _ _ he
theorem Ze8 (rs : List RI) (rr ws : List Int) : ∃ (E : Int) (ds : List DF) (d : DF),
    (Zce rs rr ws ≠ 0 -> E = Zce rs rr ws) /\
    (Zce rs rr ws = 0 -> (Z6 (n0I rs) (Zhx rs ws rs.length) = 0 /\ E = 22 /\ ds = []) \/ (Z6 (n0I rs) (Zhx rs ws rs.length) ≠ 0 /\ E = 0 /\ ∃ x : Nat -> Rat,ds = ((List.range (n0I rs)).map x).map dfQ /\ d = dfQ (Zhl rs rr ws x (n0I rs) rs.length) /\ Zlf rs rr ws x rs.length (n0I rs) /\ Zne rs rr ws x rs.length (n0I rs) /\
     ∃ D,0 < D /\ D <= pw (5 * n0I rs) /\ ∀ k,k < n0I rs -> CD D (pw (5 * n0I rs)) (x k))) /\
    ∀ (w : World) (A B C : Option Addr) (n c m0 d0 k e0 : Nat),MIL w A n c rs -> LimI w B m0 d0 rr -> LimI w C k e0 ws ->
    Calls Tryz.prog 18 #[.slice A n c,.slice B m0 d0,.slice C k e0] w (LeastD w ds d E):=by
 by_cases hE : Zce rs rr ws = 0
 ·by_cases hsz : rs.length <= 200 /\ n0I rs <= 12
  ·obtain ⟨full,X,a1,a2,a3,a4,a5,a6,a7,a8⟩:=Zuo (n:=rs.length) (m:=n0I rs) hsz.1 hsz.2 hE
   cases full with
   | true =>
    obtain ⟨x1,x2,x3,x4,x5⟩:=a8 rfl;refine ⟨0,((List.range (n0I rs)).map fun j=>X j (n0I rs)).map dfQ,dfQ (Zhl rs rr ws (fun j=>X j (n0I rs)) (n0I rs) rs.length),fun h=>absurd hE h,fun _=>.inr ⟨a7.1 rfl,rfl,fun j=>X j (n0I rs),rfl,rfl,x3,x4,x5⟩,fun w A B C n c m0 d0 k e0 h hr hw=>?_⟩;obtain ⟨p1,p2,p3,p4,p5,p6,p7⟩:=Znp h hE;obtain rfl : rs.length = n:=h.1
    obtain rfl : m0 = rs.length:=by rw [<- hr.1,p5]
    obtain rfl : k = rs.length:=by rw [<- hw.1,p6]
    exact (Zlq A B C _ c d0 e0 _ rs rr ws w h hr hw hE rfl p1 p3 p4 a1 a3 (by rw [a4];exact a5) X (fun _=>x2) true (by rw [a4];exact a6) (fun _=>x4)).mono fun e w' he=>LeastD.of_full rfl he
   | false =>
    refine ⟨22,[],dfZ,fun h=>absurd hE h,fun _=>.inl ⟨Classical.byContradiction fun h=>(by have:=a7.2 h;cases this),rfl,rfl⟩,fun w A B C n c m0 d0 k e0 h hr hw=>?_⟩;obtain ⟨p1,p2,p3,p4,p5,p6,p7⟩:=Znp h hE;obtain rfl : rs.length = n:=h.1
    obtain rfl : m0 = rs.length:=by rw [<- hr.1,p5]
    obtain rfl : k = rs.length:=by rw [<- hw.1,p6]
    have hne : (Zab (n0I rs) 0 0 (Zbj rs rr ws rs.length (n0I rs)) false).2.1 ≠ n0I rs:=by simpa using a6
    exact (Zlq A B C _ c d0 e0 _ rs rr ws w h hr hw hE rfl p1 p3 p4 a1 a3 (by rw [a4];exact a5) X (fun h=>absurd (a4.symm.trans h) hne) false (by rw [a4];exact a6) (fun h=>(by cases h))).mono fun e w' he=>LeastD.of_short rfl he
  ·refine ⟨0,[],dfZ,fun h=>absurd hE h,fun _=>?_,fun w A B C n c m0 d0 k e0 h hr hw=>?_⟩
   ·exfalso
    obtain ⟨f1,f2,f3,f4,f5,f6,f7,f8⟩:=Zfc hE;refine hsz ⟨f1,?_⟩
    cases hrs : rs with
    | nil=>rw [hrs] at f3;exact absurd rfl f3
    | cons r t =>
     have h1 : r ∈ rs:=by rw [hrs];exact List.mem_cons_self
     rw [<- hrs,<- (f8 r h1).1];exact f2 r h1
   ·exfalso
    obtain ⟨p1,p2,p3,p4,p5,p6,p7⟩:=Znp h hE;have:=h.1;exact hsz ⟨by omega,p4⟩
 ·refine ⟨Zce rs rr ws,[],dfZ,fun _=>rfl,fun h=>absurd h hE,fun w A B C n c m0 d0 k e0 h hr hw=>?_⟩
  exact (Zpu A B C n c m0 d0 k e0 rs rr ws w h hr hw _ rfl hE).mono fun e w' he=>LeastD.of_bad he
theorem LimI.lit {w : World} {g : Nat} {t : TypeId} {l : List Int} {cs : Array Value} (h : Blk w g t cs) (hc : cs = (l.map (fun x=>Value.int .i64 x)).toArray) (hl : ∀ x ∈ l,I64 x) (hn : l.length <= 1000) : LimI w (some ⟨g,0,none⟩) l.length l.length l:=by
 subst hc;refine ⟨rfl,Nat.le_refl _,by unfold maxLen;omega,hl,fun _=>⟨g,0,rfl,fun k hk=>?_⟩⟩;rw [Nat.zero_add,h.cell]
 simp [List.getElem?_eq_getElem hk]
theorem MFL.two {w : World} {g : Nat} {t : TypeId} {A B : Option Addr} {n c m d : Nat} {p q : List Rat} (h : Blk w g t #[.slice A n c,.slice B m d]) (hp : FL w A n c p) (hq : FL w B m d q) : MFL w (some ⟨g,0,none⟩) 2 2 [p,q]:=by
 refine ⟨rfl,Nat.le_refl _,by unfold maxLen;omega,fun _=>⟨g,0,rfl,fun k r hr=>?_⟩⟩
 match k,hr with
 | 0,hr=>cases hr;exact ⟨A,n,c,h.cell 0,hp⟩
 | 1,hr=>cases hr;exact ⟨B,m,d,h.cell 1,hq⟩
 | k + 2,hr=>simp at hr
theorem FL.two {w : World} {g : Nat} {t : TypeId} {xn : Bool} {xA : Option Addr} {xk xc : Nat} {xm : Bool} {xB : Option Addr} {xj xd : Nat} {yn : Bool} {yA : Option Addr} {yk yc : Nat} {ym : Bool} {yB : Option Addr} {yj yd : Nat} {p q : Rat} (h : Blk w g t #[.bool xn,.slice xA xk xc,.bool xm,.slice xB xj xd,.bool yn,.slice yA yk yc,.bool ym,.slice yB yj yd]) (hp : Fr w xn xA xk xc xm xB xj xd p) (hq : Fr w yn yA yk yc ym yB yj yd q) : FL w (some ⟨g,0,none⟩) 2 2 [p,q]:=by
 refine ⟨[⟨xn,xA,xk,xc,xm,xB,xj,xd,p⟩,⟨yn,yA,yk,yc,ym,yB,yj,yd,q⟩],rfl,Nat.le_refl _,by unfold maxLen;omega,fun e he=>?_,rfl,fun _=>⟨g,0,rfl,fun k r hr=>?_⟩⟩
 ·simp only [List.mem_cons,List.not_mem_nil,or_false] at he
  rcases he with rfl | rfl
  ·exact hp
  ·exact hq
 ·match k,hr with
  | 0,hr=>cases hr;exact ⟨h.cell 0,h.cell 1,h.cell 2,h.cell 3⟩
  | 1,hr=>cases hr;exact ⟨h.cell 4,h.cell 5,h.cell 6,h.cell 7⟩
  | k + 2,hr=>simp at hr
theorem MIL.three {w : World} {g : Nat} {t : TypeId} {a b c : RI} (h : Blk w g t #[.slice a.A a.n a.c,.slice b.A b.n b.c,.slice c.A c.n c.c]) (ha : LimI w a.A a.n a.c a.l) (hb : LimI w b.A b.n b.c b.l) (hc : LimI w c.A c.n c.c c.l) : MIL w (some ⟨g,0,none⟩) 3 3 [a,b,c]:=by
 refine ⟨rfl,Nat.le_refl _,by unfold maxLen;omega,fun r hr=>?_,fun _=>⟨g,0,rfl,fun k r hr=>?_⟩⟩
 ·simp only [List.mem_cons,List.not_mem_nil,or_false] at hr
  rcases hr with rfl | rfl | rfl
  ·exact ha
  ·exact hb
  ·exact hc
 ·match k,hr with
  | 0,hr=>cases hr;exact h.cell 0
  | 1,hr=>cases hr;exact h.cell 1
  | 2,hr=>cases hr;exact h.cell 2
  | k + 3,hr=>simp at hr
theorem Fr.df {w : World} {na : Bool} {A : Option Addr} {n c : Nat} {nb : Bool} {B : Option Addr} {m d : Nat} {q : Rat} (h : Fr w na A n c nb B m d q) : na = (dfQ q).na /\ nb = (dfQ q).nb /\ Lim w A n c (dfQ q).la /\ Lim w B m d (dfQ q).lb:=by
 have h3:=h.2.2.2;rw [Int.natAbs_natCast] at h3;exact ⟨h.1.1,h.neg,h.1.2.2,h3⟩
theorem Zm7 {k : Nat} {Q : List (List Rat)} (h : ∀ r ∈ Q,∀ q ∈ r,q.num.natAbs <= pw k /\ q.den <= pw k) : SmE k Q:=fun i j=>by
 unfold Zm
 by_cases hi : i < Q.length
 ·rw [List.getElem?_eq_getElem hi,Option.getD_some]
  by_cases hj : j < Q[i].length
  ·rw [List.getElem?_eq_getElem hj,Option.getD_some]
   exact h _ (List.getElem_mem _) _ (List.getElem_mem _)
  ·rw [List.getElem?_eq_none (l:=Q[i]) (by omega)];exact Zdh k
 ·rw [List.getElem?_eq_none (l:=Q) (by omega)];exact Zdh k
theorem Zcq {q : Rat} (h : q.num.natAbs <= 9) (h2 : q.den <= 9) : Sm8 q:=by
 have : 9 < pw 8:=by decide +kernel
 exact ⟨by omega,by omega⟩
theorem Zel {q : Rat} (h : q.num.natAbs <= 9) (h2 : q.den <= 9) : q.num.natAbs <= pw 2 /\ q.den <= pw 2:=by
 have : 9 <= pw 2:=by decide +kernel
 exact ⟨by omega,by omega⟩
theorem Zer : ∀ r ∈ ([[1,2],[3,4]] : List (List Rat)),∀ q ∈ r,q.num.natAbs <= 9 /\ q.den <= 9:=by decide +kernel
theorem Zkz : ∀ q ∈ ([5,6] : List Rat),q.num.natAbs <= 9 /\ q.den <= 9:=by decide +kernel
theorem Zik : SmallQ [[1,2],[3,4]] 2:=by
 refine ⟨by decide,by decide,rfl,fun i hi=>?_,Zm7 fun r hr q hq=>Zel (Zer r hr q hq).1 (Zer r hr q hq).2⟩
 match i,hi with
 | 0,_=>rfl
 | 1,_=>rfl
theorem Zmp : Z6 2 (Zm [[1,2],[3,4]]) = -2:=by decide +kernel
theorem Zr0 (A B C : Option Addr) (a b c : Nat) : Z6 2 (Zhx [⟨A,2,a,[1,0]⟩,⟨B,2,b,[1,1]⟩,⟨C,2,c,[1,2]⟩] [1,1,1] 3) ≠ 0:=by
 have : Z6 2 (Zhx [⟨A,2,a,[1,0]⟩,⟨B,2,b,[1,1]⟩,⟨C,2,c,[1,2]⟩] [1,1,1] 3) = Z6 2 (Zhx [⟨none,2,2,[1,0]⟩,⟨none,2,2,[1,1]⟩,⟨none,2,2,[1,2]⟩] [1,1,1] 3):=rfl;rw [this]
 decide +kernel
theorem Zsx (A B C : Option Addr) (a b c : Nat) : Zce [⟨A,2,a,[1,0]⟩,⟨B,2,b,[1,1]⟩,⟨C,2,c,[1,2]⟩] [0,1,1] [1,1,1] = 0:=by
 have : Zce [⟨A,2,a,[1,0]⟩,⟨B,2,b,[1,1]⟩,⟨C,2,c,[1,2]⟩] [0,1,1] [1,1,1] = Zce [⟨none,2,2,[1,0]⟩,⟨none,2,2,[1,1]⟩,⟨none,2,2,[1,2]⟩] [0,1,1] [1,1,1]:=rfl;rw [this]
 decide +kernel
theorem Zou {X : Nat -> Rat} (h : ∀ i,i < 2 -> sumQ 2 (fun j=>Zm [[1,2],[3,4]] i j * X j) = ([5,6] : List Rat)[i]?.getD 0) : (List.range 2).map X = [-4,9 / 2]:=by
 have h0:=h 0 (by decide);have h1:=h 1 (by decide);have e0 : (0 : Rat) + 1 * X 0 + 2 * X 1 = 5:=h0;have e1 : (0 : Rat) + 3 * X 0 + 4 * X 1 = 6:=h1
 have a0 : X 0 = -4:=by grind
 have a1 : X 1 = 9 / 2:=by grind
 show [X 0,X 1] = _;rw [a0,a1]
theorem Zof {A B C : Option Addr} {a b c : Nat} {x : Nat -> Rat} (h : Zlf [⟨A,2,a,[1,0]⟩,⟨B,2,b,[1,1]⟩,⟨C,2,c,[1,2]⟩] [0,1,1] [1,1,1] x 3 2) : (List.range 2).map x = [1 / 6,1 / 2] /\ Zhl [⟨A,2,a,[1,0]⟩,⟨B,2,b,[1,1]⟩,⟨C,2,c,[1,2]⟩] [0,1,1] [1,1,1] x 2 3 = 1 / 6:=by
 have hs:=Zu2 h;have h0:=h 0 (by decide);have h1:=h 1 (by decide);have e0 : (0 : Rat) + ((3 : Int) : Rat) * x 0 + ((3 : Int) : Rat) * x 1 = ((2 : Int) : Rat):=h0;have e1 : (0 : Rat) + ((3 : Int) : Rat) * x 0 + ((5 : Int) : Rat) * x 1 = ((3 : Int) : Rat):=h1;have e2 : Zlk [⟨A,2,a,[1,0]⟩,⟨B,2,b,[1,1]⟩,⟨C,2,c,[1,2]⟩] [0,1,1] [1,1,1] x 3 2 = ((2 : Int) : Rat) - ((0 : Rat) + x 0 * ((2 : Int) : Rat) + x 1 * ((3 : Int) : Rat)):=rfl;have c2 : ((2 : Int) : Rat) = 2:=rfl;have c3 : ((3 : Int) : Rat) = 3:=rfl;have c5 : ((5 : Int) : Rat) = 5:=rfl;rw [c3,c2] at e0;rw [c3,c5] at e1;rw [c3,c2] at e2
 have a1 : x 1 = 1 / 2:=by grind
 have a0 : x 0 = 1 / 6:=by grind
 refine ⟨?_,?_⟩
 ·show [x 0,x 1] = _
  rw [a0,a1]
 ·rw [hs,e2,a0,a1]
  grind
theorem Ztj (w : World) : Calls Tryz.prog 32 #[] w fun e w'=>e = .returned (.bool true) /\ Below w.heap.size w w':=by
 have hmx : Tryz.prog.follows .mixedOrders = true:=by kernel_rfl
 have i64 : ∀ l : List Int,(∀ x ∈ l,x.natAbs <= 9) -> ∀ x ∈ l,I64 x:=fun l h x hx=>by have:=h x hx;unfold I64;omega
 obtain ⟨g1,hg1⟩ : ∃ g,w.heap.size = g:=⟨_,rfl⟩;obtain ⟨V1,hV1,qa,hbV1⟩:=Zq (w:=w) 2 #[.int .i64 1,.int .i64 2];have hl1:=LimI.lit (l:=[1,2]) qa rfl (i64 _ (by decide)) (by decide);rw [hg1] at hl1;go_enter Tryz.func32,Tryz.ntmps32;go_wp2_with fail;(try rw [hg1]);(try rw [hV1]);clear hV1 qa;replace hg1:=Za hg1;refine (Zcf (some ⟨g1,0,none⟩) 2 2 [1,2] V1 hl1 (by decide)).mono ?_;rintro e w2 ⟨v2,rfl,hb2,hO2⟩;have hB2:=hbV1.trans (hb2.mono hbV1.size);obtain ⟨A2,c2,rfl,hF2⟩:=hO2.fl;replace hF2 : FL w2 A2 2 c2 [1,2]:=hF2;replace hF2:=Za hF2;clear hO2 hl1 hb2 hbV1;obtain ⟨g2,hg2⟩ : ∃ g,w2.heap.size = g:=⟨_,rfl⟩;obtain ⟨V2,hV2,qa,hbV2⟩:=Zq (w:=w2) 2 #[.int .i64 3,.int .i64 4];have hl1:=LimI.lit (l:=[3,4]) qa rfl (i64 _ (by decide)) (by decide);rw [hg2] at hl1;simp only [List.map_cons,List.map_nil,List.length_cons,List.length_nil];go_wp2_with fail;(try rw [hg2]);(try rw [hV2]);clear hV2 qa;replace hg2:=Za hg2;refine (Zcf (some ⟨g2,0,none⟩) 2 2 [3,4] V2 hl1 (by decide)).mono ?_;rintro e w3 ⟨v3,rfl,hb3,hO3⟩;have hb23:=hbV2.trans (hb3.mono hbV2.size);have hB3:=hB2.trans (hb23.mono hB2.size);obtain ⟨A3,c3,rfl,hF3⟩:=hO3.fl;replace hF3 : FL w3 A3 2 c3 [3,4]:=hF3;replace hF2:=Za (hF2.out.below hb23);replace hF3:=Za hF3;clear hO3 hl1 hb3 hbV2 hb23 hB2;obtain ⟨g4,hg4⟩ : ∃ g,w3.heap.size = g:=⟨_,rfl⟩;obtain ⟨V4,hV4,qa,hbV4⟩:=Zq (w:=w3) 40 #[.slice A2 2 c2,.slice A3 2 c3];rw [hg4] at qa;have hM4:=MFL.two qa (hF2.out.below hbV4) (hF3.out.below hbV4)
 obtain ⟨rs,hM,hqm,hrows⟩:=hM4.mxl (fun r hr q hq=>Zcq (Zer r hr q hq).1 (Zer r hr q hq).2);have hB4:=hB3.trans (hbV4.mono hB3.size)
 have hfine:=Zty hM (m:=2) (by decide) (by decide) (by decide) (by decide) (fun r hr=>by
  obtain ⟨k,hk,rfl⟩:=List.getElem_of_mem hr;have h5:=hrows k _ (List.getElem?_eq_getElem hk)
  have hk2 : k < 2:=by rw [<- hM.1];exact hk
  refine ⟨h5.1.trans ?_,h5.2⟩
  match k,hk2 with
  | 0,_=>rfl
  | 1,_=>rfl)
 have hsq : sqE rs = 0:=by
  unfold sqE;rw [if_pos hfine.1,if_pos (by rw [hfine.2,hM.1])]
 obtain ⟨dd,hdd,hdet⟩:=Zrd 0 [[1,2],[3,4]] 2 (fun _=>Zik)
 obtain ⟨E5,ds5,hds5,hsol⟩:=Zmv 0 true [[1,2],[3,4]] [5,6] 2 2 (fun _=>Zik) (fun _ i=>by
  by_cases hi : i < 2
  ·match i,hi with
   | 0,_=>exact Zel (by decide +kernel) (by decide +kernel)
   | 1,_=>exact Zel (by decide +kernel) (by decide +kernel)
  ·rw [List.getElem?_eq_none (by simp;omega)];exact Zdh 2)
 have hE5 : E5 = 0 /\ ds5 = [dfQ (-4),dfQ (9 / 2)]:=by
  rcases hds5 rfl rfl rfl with ⟨h1,-⟩ | ⟨-,h2,X,h3,h4,-⟩
  ·rw [Zmp] at h1
   exact absurd h1 (by decide +kernel)
  ·refine ⟨h2,?_⟩
   rw [h3,Zou h4]
   rfl
 obtain ⟨rfl,rfl⟩:=hE5;replace hdd:=hdd rfl;rw [Zmp] at hdd;subst hdd;replace hdet:=Za hdet;replace hsol:=Za hsol;replace hM:=Za hM;replace hsq:=Za hsq;replace hqm:=Za hqm;clear hds5 hfine hrows hM4 hF2 hF3 qa;go_wp2_with fail;(try rw [hg4]);(try rw [hV4]);clear hV4;replace hg4:=Za hg4;refine (hdet.out V4 (some ⟨g4,0,none⟩) 2 rs hM.out hsq.out hqm.out).mono ?_;rintro e w5 ⟨dA,dk,dc,dB,dj,dd1,rfl,hb5,l1,l2⟩;have hB5:=hB4.trans (hb5.mono hB4.size);obtain ⟨g5,hg5⟩ : ∃ g,w5.heap.size = g:=⟨_,rfl⟩;obtain ⟨V5,hV5,q5,hbV5⟩:=Zq (w:=w5) 45 #[.bool (dfQ (-2)).na,.slice dA dk dc,.bool (dfQ (-2)).nb,.slice dB dj dd1];rw [hg5] at q5;have hB5':=hB5.trans (hbV5.mono hB5.size);have hb45:=hb5.trans (hbV5.mono hb5.size);replace l1:=Za (l1.below hbV5);replace l2:=Za (l2.below hbV5);replace q5:=Za q5;replace hM:=Za (hM.out.below hb45);clear hdet hb5 hbV5 hb45 hB4 hB5;obtain ⟨g6,hg6⟩ : ∃ g,V5.heap.size = g:=⟨_,rfl⟩;obtain ⟨V6,hV6,qa,hbV6⟩:=Zq (w:=V5) 2 #[.int .i64 5,.int .i64 6];have hl1:=LimI.lit (l:=[5,6]) qa rfl (i64 _ (by decide)) (by decide);rw [hg6] at hl1;go_wp2_with fail;(try rw [hg5]);(try rw [hV5]);(try rw [hg6]);(try rw [hV6]);clear hV5 hV6 qa;replace hg5:=Za hg5;replace hg6:=Za hg6;refine (Zcf (some ⟨g6,0,none⟩) 2 2 [5,6] V6 hl1 (by decide)).mono ?_;rintro e w7 ⟨v7,rfl,hb7,hO7⟩;have hb57:=hbV6.trans (hb7.mono hbV6.size);have hB7:=hB5'.trans (hb57.mono hB5'.size);obtain ⟨A7,c7,rfl,hF7⟩:=hO7.fl;replace hF7 : FL w7 A7 2 c7 [5,6]:=hF7
 obtain ⟨es,hX7,heq,hvec⟩:=hF7.fxl (fun q hq=>Zcq (Zkz q hq).1 (Zkz q hq).2);replace hM:=Za (hM.out.below hb57);replace l1:=Za (l1.out.below hb57);replace l2:=Za (l2.out.below hb57);replace q5:=Za (Zb hb57 q5.out);replace hX7:=Za hX7;replace hvec:=Za hvec;replace heq:=Za heq;clear hO7 hF7 hb7 hbV6 hb57 hB5' hl1;simp only [List.map_cons,List.map_nil,List.length_cons,List.length_nil];go_wp2_with fail;refine ((hsol.out w7 (some ⟨g4,0,none⟩) A7 2 c7 rs es hM.out hX7.out hsq.out hqm.out hvec.out heq.out)).mono ?_;rintro e w8 ⟨A8,n8,c8,rfl,hb8,y1⟩;have hB8:=hB7.trans (hb8.mono hB7.size);obtain rfl : 2 = n8:=y1.1;replace l1:=Za (l1.out.below hb8);replace l2:=Za (l2.out.below hb8);replace q5:=Za (Zb hb8 q5.out);replace y1:=Za y1;clear hsol hM hX7 hvec heq hsq hqm hb8 hB7;obtain ⟨k1,hk1⟩ : ∃ g,w8.heap.size = g:=⟨_,rfl⟩;obtain ⟨U1,hU1,r1,hbU1⟩:=Zq (w:=w8) 2 #[.int .i64 1,.int .i64 0];rw [hk1] at r1;obtain ⟨k2,hk2⟩ : ∃ g,U1.heap.size = g:=⟨_,rfl⟩;obtain ⟨U2,hU2,r2,hbU2⟩:=Zq (w:=U1) 2 #[.int .i64 1,.int .i64 1];rw [hk2] at r2;obtain ⟨k3,hk3⟩ : ∃ g,U2.heap.size = g:=⟨_,rfl⟩;obtain ⟨U3,hU3,r3,hbU3⟩:=Zq (w:=U2) 2 #[.int .i64 1,.int .i64 2];rw [hk3] at r3;obtain ⟨k4,hk4⟩ : ∃ g,U3.heap.size = g:=⟨_,rfl⟩;obtain ⟨U4,hU4,r4,hbU4⟩:=Zq (w:=U3) 34 #[.slice (some ⟨k1,0,none⟩) 2 2,.slice (some ⟨k2,0,none⟩) 2 2,.slice (some ⟨k3,0,none⟩) 2 2];rw [hk4] at r4;obtain ⟨k5,hk5⟩ : ∃ g,U4.heap.size = g:=⟨_,rfl⟩;obtain ⟨U5,hU5,r5,hbU5⟩:=Zq (w:=U4) 2 #[.int .i64 0,.int .i64 1,.int .i64 1];rw [hk5] at r5
 obtain ⟨k6,hk6⟩ : ∃ g,U5.heap.size = g:=⟨_,rfl⟩;obtain ⟨U6,hU6,r6,hbU6⟩:=Zq (w:=U5) 2 #[.int .i64 1,.int .i64 1,.int .i64 1];rw [hk6] at r6;have h56:=hbU5.trans (hbU6.mono hbU5.size);have h46:=hbU4.trans (h56.mono hbU4.size);have h36:=hbU3.trans (h46.mono hbU3.size);have h26:=hbU2.trans (h36.mono hbU2.size);have h16:=hbU1.trans (h26.mono hbU1.size);have hB9:=hB8.trans (h16.mono hB8.size);have la:=LimI.lit (l:=[1,0]) (Zb h26 r1) rfl (i64 _ (by decide)) (by decide);have lb:=LimI.lit (l:=[1,1]) (Zb h36 r2) rfl (i64 _ (by decide)) (by decide);have lc:=LimI.lit (l:=[1,2]) (Zb h46 r3) rfl (i64 _ (by decide)) (by decide);have hMI:=Za (MIL.three (a:=⟨some ⟨k1,0,none⟩,2,2,[1,0]⟩) (b:=⟨some ⟨k2,0,none⟩,2,2,[1,1]⟩) (c:=⟨some ⟨k3,0,none⟩,2,2,[1,2]⟩) (Zb h56 r4) la lb lc);have hR5:=Za (LimI.lit (l:=[0,1,1]) (Zb hbU6 r5) rfl (i64 _ (by decide)) (by decide));have hR6:=Za (LimI.lit (l:=[1,1,1]) r6 rfl (i64 _ (by decide)) (by decide));replace l1:=Za (l1.out.below h16);replace l2:=Za (l2.out.below h16);replace q5:=Za (Zb h16 q5.out);replace y1:=Za (y1.out.below h16);obtain ⟨E9,ds9,d9,-,hds9,hlst⟩:=Ze8 [⟨some ⟨k1,0,none⟩,2,2,[1,0]⟩,⟨some ⟨k2,0,none⟩,2,2,[1,1]⟩,⟨some ⟨k3,0,none⟩,2,2,[1,2]⟩] [0,1,1] [1,1,1]
 have hE9 : E9 = 0 /\ ds9 = [dfQ (1 / 6),dfQ (1 / 2)] /\ d9 = dfQ (1 / 6):=by
  rcases hds9 (Zsx _ _ _ _ _ _) with ⟨h1,-⟩ | ⟨-,h2,X,h3,h4,h5,-⟩
  ·exact absurd h1 (Zr0 _ _ _ _ _ _)
  ·have h6:=Zof h5
   have e1 : ds9 = ((List.range 2).map X).map dfQ:=h3;have e2 : d9 = dfQ (Zhl [⟨some ⟨k1,0,none⟩,2,2,[1,0]⟩,⟨some ⟨k2,0,none⟩,2,2,[1,1]⟩,⟨some ⟨k3,0,none⟩,2,2,[1,2]⟩] [0,1,1] [1,1,1] X 2 3):=h4;refine ⟨h2,?_,?_⟩
   ·rw [e1,h6.1];rfl
   ·rw [e2,h6.2]
 obtain ⟨rfl,rfl,rfl⟩:=hE9;replace hlst:=Za hlst;clear hds9 la lb lc r1 r2 r3 r4 r5 r6 hbU1 hbU2 hbU3 hbU4 hbU5 hbU6 h56 h46 h36 h26 h16 hB8;go_wp2_with fail;(try rw [hk1]);(try rw [hU1]);(try rw [hk2]);(try rw [hU2]);(try rw [hk3]);(try rw [hU3]);(try rw [hk4]);(try rw [hU4]);(try rw [hk5]);(try rw [hU5]);(try rw [hk6]);(try rw [hU6]);clear hU1 hU2 hU3 hU4 hU5 hU6;replace hk1:=Za hk1;replace hk2:=Za hk2;replace hk3:=Za hk3;replace hk4:=Za hk4;replace hk5:=Za hk5;replace hk6:=Za hk6;refine ((hlst.out U6 (some ⟨k4,0,none⟩) (some ⟨k5,0,none⟩) (some ⟨k6,0,none⟩) 3 3 3 3 3 3 hMI.out hR5.out hR6.out)).mono ?_;rintro e w9 ⟨A9,n9,c9,sA,sk,sc,sB,sj,sd,rfl,hb9,y2,l3,l4⟩;obtain rfl : 2 = n9:=y2.1;have hB10:=hB9.trans (hb9.mono hB9.size);obtain ⟨g10,hg10⟩ : ∃ g,w9.heap.size = g:=⟨_,rfl⟩;obtain ⟨V10,hV10,q10,hbV10⟩:=Zq (w:=w9) 45 #[.bool (dfQ (1 / 6)).na,.slice sA sk sc,.bool (dfQ (1 / 6)).nb,.slice sB sj sd];rw [hg10] at q10;have hb9':=hb9.trans (hbV10.mono hb9.size);have hB11:=Za (hB10.trans (hbV10.mono hB10.size));replace l1:=Za (l1.out.below hb9');replace l2:=Za (l2.out.below hb9');replace q5:=Za (Zb hb9' q5.out);replace y1:=Za (y1.out.below hb9');replace y2:=Za (y2.below hbV10);replace l3:=Za (l3.below hbV10);replace l4:=Za (l4.below hbV10);replace q10:=Za q10;clear hlst hMI hR5 hR6 hb9 hb9' hbV10 hB9 hB10;go_wp2_with fail;(try rw [hg10]);(try rw [hV10]);clear hV10;replace hg10:=Za hg10;obtain ⟨c0,c1,c2',c3',-⟩:=q5.out.four
 refine Zar [] (fun wx=>wx.cell? ⟨g5,0,none⟩ = some (.bool (dfQ (-2)).na) /\ wx.cell? ⟨g5,1,none⟩ = some (.slice dA dk dc) /\ wx.cell? ⟨g5,2,none⟩ = some (.bool (dfQ (-2)).nb) /\ wx.cell? ⟨g5,3,none⟩ = some (.slice dB dj dd1)) hmx ⟨c0,c1,c2',c3'⟩ (fun _=>?_);refine Zif 4 [0,1,2,3] rfl (by kernel_rfl) ⟨c0,c1,c2',c3'⟩ ?_
 iterate 4 (refine tk1 (v:=?_) rfl (Or.inl ⟨by kernel_rfl,?_⟩) ?_;rotate_left;(· intro W2 hSw;(try dsimp only at hSw);go_simp;try with_reducible rfl);try simp only [Act.put,Zf0,Zfg,Zfv,putG_a,putG_s,putG_z])
 refine tk0 ?_;refine Ze (i:=4) rfl (by kernel_rfl) (fun K hK=>?_);(try rw [if_pos (by kernel_rfl)]);go_simp;refine (Zem (-2) 1 V10.drew (by decide) (by decide) (by decide) (by decide)).mono ?_;rintro e x1 ⟨hx1,pn,pA,pk,pc,pm,pB,pj,pd,rfl,hp⟩;rw [Zd7] at hp;replace hx1:=Zs hx1;obtain ⟨e1,e2,m1,m2⟩:=hp.df;replace l1:=Za (l1.out.below hx1);replace l2:=Za (l2.out.below hx1);replace c0:=Zc hx1 c0;replace c1:=Zc hx1 c1;replace c2':=Zc hx1 c2';replace c3':=Zc hx1 c3';refine hK.out _ _ (fun _=>⟨c0,c1,c2',c3'⟩) ?_;clear hK K
 try simp only [Act.put,Zf0,Zfg,Zfv]
 subst e1 e2;refine Ze (i:=5) rfl (by kernel_rfl) (fun K hK=>?_);(try rw [if_pos (by kernel_rfl)]);go_simp;refine (Zhk (dfQ (-2)).na (dfQ (-2)).nb dA dB pA pB dk dc dj dd1 pk pc pj pd (dfQ (-2)).la (dfQ (-2)).lb x1 l1.out l2.out m1 m2).mono ?_;rintro e x2 ⟨rfl,hx2⟩;replace c0:=Zc hx2 c0;replace c1:=Zc hx2 c1;replace c2':=Zc hx2 c2';replace c3':=Zc hx2 c3';refine hK.out _ _ (fun _=>⟨c0,c1,c2',c3'⟩) ?_;clear hK K
 try simp only [Act.put,Zf0,Zfg,Zfv]
 refine Zif 7 [6,7,8,9,10,11,12] rfl (by kernel_rfl) ⟨c0,c1,c2',c3'⟩ ?_
 iterate 7 (refine tk1 (v:=?_) rfl (Or.inl ⟨by kernel_rfl,?_⟩) ?_;rotate_left;(· intro W2 hSw;(try dsimp only at hSw);go_simp;try with_reducible rfl);try simp only [Act.put,Zf0,Zfg,Zfv,putG_a,putG_s,putG_z])
 refine tk0 ?_;have hx12:=hx1.trans (hx2.mono hx1.size);replace y1:=Za (y1.out.below hx12);replace y2:=Za (y2.out.below hx12);replace l3:=Za (l3.out.below hx12);replace l4:=Za (l4.out.below hx12);replace q10:=Za (Zb hx12 q10.out);replace hB11:=Za (hB11.out.trans (hx12.mono hB11.out.size));clear hx12 hx1 hx2 m1 m2 hp l1 l2 q5;refine Ze (i:=13) rfl (by kernel_rfl) (fun K hK=>?_);(try rw [if_pos (by kernel_rfl)]);go_simp;refine (Zem (-4) 1 x2 (by decide) (by decide) (by decide) (by decide)).mono ?_;rintro e x3 ⟨h1,un,uA,uk,uc,um,uB,uj,ud,rfl,hu⟩;replace c0:=Zc h1 c0;replace c1:=Zc h1 c1;replace c2':=Zc h1 c2';replace c3':=Zc h1 c3';replace y1:=Za (y1.out.below h1);replace y2:=Za (y2.out.below h1);replace l3:=Za (l3.out.below h1);replace l4:=Za (l4.out.below h1);replace q10:=Za (Zb h1 q10.out);replace hB11:=Za (hB11.out.trans (Below.mono h1 hB11.out.size));clear h1;refine hK.out _ _ (fun _=>⟨c0,c1,c2',c3'⟩) ?_;clear hK K
 try simp only [Act.put,Zf0,Zfg,Zfv]
 refine Ze (i:=14) rfl (by kernel_rfl) (fun K hK=>?_);(try rw [if_pos (by kernel_rfl)]);go_simp;refine (Zem 9 2 x3 (by decide) (by decide) (by decide) (by decide)).mono ?_;rintro e x4 ⟨h2,vn,vA,vk,vc,vm,vB,vj,vd,rfl,hv⟩;replace hu:=hu.below h2;replace c0:=Zc h2 c0;replace c1:=Zc h2 c1;replace c2':=Zc h2 c2';replace c3':=Zc h2 c3';replace y1:=Za (y1.out.below h2);replace y2:=Za (y2.out.below h2);replace l3:=Za (l3.out.below h2);replace l4:=Za (l4.out.below h2);replace q10:=Za (Zb h2 q10.out);replace hB11:=Za (hB11.out.trans (Below.mono h2 hB11.out.size));clear h2;refine hK.out _ _ (fun _=>⟨c0,c1,c2',c3'⟩) ?_;clear hK K
 try simp only [Act.put,Zf0,Zfg,Zfv]
 obtain ⟨gl,hgl⟩ : ∃ g,x4.heap.size = g:=⟨_,rfl⟩;obtain ⟨Vl,hVl,ql,hbl⟩:=Zq (w:=x4) 45 #[.bool un,.slice uA uk uc,.bool um,.slice uB uj ud,.bool vn,.slice vA vk vc,.bool vm,.slice vB vj vd];rw [hgl] at ql;have hFl:=(FL.two ql (hu.below hbl) (hv.below hbl)).xl;refine Ze (i:=15) rfl (by kernel_rfl) (fun K hK=>?_);(try rw [if_pos (by kernel_rfl)]);go_simp;(try rw [hgl]);(try rw [hVl]);clear hVl;replace c0:=Zc hbl c0;replace c1:=Zc hbl c1;replace c2':=Zc hbl c2';replace c3':=Zc hbl c3';replace y1:=Za (y1.out.below hbl);replace y2:=Za (y2.out.below hbl);replace l3:=Za (l3.out.below hbl);replace l4:=Za (l4.out.below hbl);replace q10:=Za (Zb hbl q10.out);replace hB11:=Za (hB11.out.trans (Below.mono hbl hB11.out.size));clear hbl;refine hK.out _ _ (fun _=>⟨c0,c1,c2',c3'⟩) ?_;clear hK K
 try simp only [Act.put,Zf0,Zfg,Zfv]
 rw [show [Rat.divInt (-4) 1,Rat.divInt 9 2].map dfQ = [dfQ (-4),dfQ (9 / 2)] by
  simp only [List.map_cons,List.map_nil]
  rw [show Rat.divInt (-4) 1 = (-4) by decide +kernel,show Rat.divInt 9 2 = (9 / 2) by decide +kernel]] at hFl
 refine Ze (i:=16) rfl (by kernel_rfl) (fun K hK=>?_);(try rw [if_pos (by kernel_rfl)]);go_simp;refine (Zfp A8 (some ⟨gl,0,none⟩) 2 c8 2 _ Vl (y1.out) hFl).mono ?_;rintro e x5 ⟨rfl,h4⟩;replace c0:=Zc h4 c0;replace c1:=Zc h4 c1;replace c2':=Zc h4 c2';replace c3':=Zc h4 c3';replace y1:=Za (y1.out.below h4);replace y2:=Za (y2.out.below h4);replace l3:=Za (l3.out.below h4);replace l4:=Za (l4.out.below h4);replace q10:=Za (Zb h4 q10.out);replace hB11:=Za (hB11.out.trans (Below.mono h4 hB11.out.size));clear h4;refine hK.out _ _ (fun _=>⟨c0,c1,c2',c3'⟩) ?_;clear hK K
 try simp only [Act.put,Zf0,Zfg,Zfv]
 clear hFl ql hu hv;refine Zif 1 [17] rfl (by kernel_rfl) ⟨c0,c1,c2',c3'⟩ ?_
 (refine tk1 (v:=?_) rfl (Or.inl ⟨by kernel_rfl,?_⟩) ?_;rotate_left;(· intro W2 hSw;(try dsimp only at hSw);go_simp;try with_reducible rfl);try simp only [Act.put,Zf0,Zfg,Zfv,putG_a,putG_s,putG_z])
 refine tk0 ?_;refine Zfh 1 [18] rfl (by kernel_rfl) ⟨c0,c1,c2',c3'⟩ ?_
 (refine tk1 (v:=?_) rfl (Or.inl ⟨by kernel_rfl,?_⟩) ?_;rotate_left;(· intro W2 _;go_simp;try with_reducible rfl);try simp only [Act.put,Zf0,Zfg,Zfv,putG_a,putG_s,putG_z])
 refine tk0 ?_;refine Zk (by kernel_rfl) ?_ _;refine OnlyNormal.normal ?_;clear c0 c1 c2' c3';go_wp2_with fail;obtain ⟨c0,c1,c2',c3',-⟩:=q10.out.four;refine Zar [] (fun wx=>wx.cell? ⟨g10,0,none⟩ = some (.bool (dfQ (1 / 6)).na) /\ wx.cell? ⟨g10,1,none⟩ = some (.slice sA sk sc) /\ wx.cell? ⟨g10,2,none⟩ = some (.bool (dfQ (1 / 6)).nb) /\ wx.cell? ⟨g10,3,none⟩ = some (.slice sB sj sd)) hmx ⟨c0,c1,c2',c3'⟩ (fun _=>?_);refine Zif 7 [0,1,2,3,4,5,6] rfl (by kernel_rfl) ⟨c0,c1,c2',c3'⟩ ?_
 iterate 7 (refine tk1 (v:=?_) rfl (Or.inl ⟨by kernel_rfl,?_⟩) ?_;rotate_left;(· intro W2 hSw;(try dsimp only at hSw);go_simp;try with_reducible rfl);try simp only [Act.put,Zf0,Zfg,Zfv,putG_a,putG_s,putG_z])
 refine tk0 ?_;refine Ze (i:=7) rfl (by kernel_rfl) (fun K hK=>?_);(try rw [if_pos (by kernel_rfl)]);go_simp;refine (Zem 1 6 x5.drew (by decide) (by decide) (by decide) (by decide)).mono ?_;rintro e x6 ⟨h1,un,uA,uk,uc,um,uB,uj,ud,rfl,hu⟩;replace h1:=Zs h1;replace c0:=Zc h1 c0;replace c1:=Zc h1 c1;replace c2':=Zc h1 c2';replace c3':=Zc h1 c3';replace y2:=Za (y2.out.below h1);replace l3:=Za (l3.out.below h1);replace l4:=Za (l4.out.below h1);replace hB11:=Za (hB11.out.trans (Below.mono h1 hB11.out.size));clear h1;refine hK.out _ _ (fun _=>⟨c0,c1,c2',c3'⟩) ?_;clear hK K
 try simp only [Act.put,Zf0,Zfg,Zfv]
 refine Ze (i:=8) rfl (by kernel_rfl) (fun K hK=>?_);(try rw [if_pos (by kernel_rfl)]);go_simp;refine (Zem 1 2 x6 (by decide) (by decide) (by decide) (by decide)).mono ?_;rintro e x7 ⟨h2,vn,vA,vk,vc,vm,vB,vj,vd,rfl,hv⟩;replace hu:=hu.below h2;replace c0:=Zc h2 c0;replace c1:=Zc h2 c1;replace c2':=Zc h2 c2';replace c3':=Zc h2 c3';replace y2:=Za (y2.out.below h2);replace l3:=Za (l3.out.below h2);replace l4:=Za (l4.out.below h2);replace hB11:=Za (hB11.out.trans (Below.mono h2 hB11.out.size));clear h2;refine hK.out _ _ (fun _=>⟨c0,c1,c2',c3'⟩) ?_;clear hK K
 try simp only [Act.put,Zf0,Zfg,Zfv]
 obtain ⟨gl,hgl⟩ : ∃ g,x7.heap.size = g:=⟨_,rfl⟩;obtain ⟨Vl,hVl,ql,hbl⟩:=Zq (w:=x7) 45 #[.bool un,.slice uA uk uc,.bool um,.slice uB uj ud,.bool vn,.slice vA vk vc,.bool vm,.slice vB vj vd];rw [hgl] at ql;have hFl:=(FL.two ql (hu.below hbl) (hv.below hbl)).xl;refine Ze (i:=9) rfl (by kernel_rfl) (fun K hK=>?_);(try rw [if_pos (by kernel_rfl)]);go_simp;(try rw [hgl]);(try rw [hVl]);clear hVl;replace c0:=Zc hbl c0;replace c1:=Zc hbl c1;replace c2':=Zc hbl c2';replace c3':=Zc hbl c3';replace y2:=Za (y2.out.below hbl);replace l3:=Za (l3.out.below hbl);replace l4:=Za (l4.out.below hbl);replace hB11:=Za (hB11.out.trans (Below.mono hbl hB11.out.size));clear hbl;refine hK.out _ _ (fun _=>⟨c0,c1,c2',c3'⟩) ?_;clear hK K
 try simp only [Act.put,Zf0,Zfg,Zfv]
 rw [show [Rat.divInt 1 6,Rat.divInt 1 2].map dfQ = [dfQ (1 / 6),dfQ (1 / 2)] by
  simp only [List.map_cons,List.map_nil]
  rw [show Rat.divInt 1 6 = (1 / 6) by decide +kernel,show Rat.divInt 1 2 = (1 / 2) by decide +kernel]] at hFl
 refine Ze (i:=10) rfl (by kernel_rfl) (fun K hK=>?_);(try rw [if_pos (by kernel_rfl)]);go_simp;refine (Zfp A9 (some ⟨gl,0,none⟩) 2 c9 2 _ Vl (y2.out) hFl).mono ?_;rintro e x8 ⟨rfl,h4⟩;replace c0:=Zc h4 c0;replace c1:=Zc h4 c1;replace c2':=Zc h4 c2';replace c3':=Zc h4 c3';replace y2:=Za (y2.out.below h4);replace l3:=Za (l3.out.below h4);replace l4:=Za (l4.out.below h4);replace hB11:=Za (hB11.out.trans (Below.mono h4 hB11.out.size));clear h4;refine hK.out _ _ (fun _=>⟨c0,c1,c2',c3'⟩) ?_;clear hK K
 try simp only [Act.put,Zf0,Zfg,Zfv]
 clear hFl ql hu hv;refine Zif 3 [11,12,13] rfl (by kernel_rfl) ⟨c0,c1,c2',c3'⟩ ?_
 iterate 3 (refine tk1 (v:=?_) rfl (Or.inl ⟨by kernel_rfl,?_⟩) ?_;rotate_left;(· intro W2 hSw;(try dsimp only at hSw);go_simp;try with_reducible rfl);try simp only [Act.put,Zf0,Zfg,Zfv,putG_a,putG_s,putG_z])
 refine tk0 ?_;refine Ze (i:=14) rfl (by kernel_rfl) (fun K hK=>?_);(try rw [if_pos (by kernel_rfl)]);go_simp;refine (Zem 1 6 x8 (by decide) (by decide) (by decide) (by decide)).mono ?_;rintro e x9 ⟨hx1,pn,pA,pk,pc,pm,pB,pj,pd,rfl,hp⟩;rw [show Rat.divInt 1 6 = 1 / 6 by decide +kernel] at hp;obtain ⟨e1,e2,m1,m2⟩:=hp.df;replace l3:=Za (l3.out.below hx1);replace l4:=Za (l4.out.below hx1);replace hB11:=Za (hB11.out.trans (Below.mono hx1 hB11.out.size));replace c0:=Zc hx1 c0;replace c1:=Zc hx1 c1;replace c2':=Zc hx1 c2';replace c3':=Zc hx1 c3';refine hK.out _ _ (fun _=>⟨c0,c1,c2',c3'⟩) ?_;clear hK K
 try simp only [Act.put,Zf0,Zfg,Zfv]
 subst e1 e2;refine Ze (i:=15) rfl (by kernel_rfl) (fun K hK=>?_);(try rw [if_pos (by kernel_rfl)]);go_simp;refine (Zhk (dfQ (1 / 6)).na (dfQ (1 / 6)).nb sA sB pA pB sk sc sj sd pk pc pj pd (dfQ (1 / 6)).la (dfQ (1 / 6)).lb x9 l3.out l4.out m1 m2).mono ?_;rintro e x10 ⟨rfl,hx2⟩;replace hB11:=Za (hB11.out.trans (Below.mono hx2 hB11.out.size));replace c0:=Zc hx2 c0;replace c1:=Zc hx2 c1;replace c2':=Zc hx2 c2';replace c3':=Zc hx2 c3';refine hK.out _ _ (fun _=>⟨c0,c1,c2',c3'⟩) ?_;clear hK K
 try simp only [Act.put,Zf0,Zfg,Zfv]
 refine Zif 1 [16] rfl (by kernel_rfl) ⟨c0,c1,c2',c3'⟩ ?_
 (refine tk1 (v:=?_) rfl (Or.inl ⟨by kernel_rfl,?_⟩) ?_;rotate_left;(· intro W2 hSw;(try dsimp only at hSw);go_simp;try with_reducible rfl);try simp only [Act.put,Zf0,Zfg,Zfv,putG_a,putG_s,putG_z])
 refine tk0 ?_;refine Zfh 1 [17] rfl (by kernel_rfl) ⟨c0,c1,c2',c3'⟩ ?_
 (refine tk1 (v:=?_) rfl (Or.inl ⟨by kernel_rfl,?_⟩) ?_;rotate_left;(· intro W2 _;go_simp;try with_reducible rfl);try simp only [Act.put,Zf0,Zfg,Zfv,putG_a,putG_s,putG_z])
 refine tk0 ?_;refine Zk (by kernel_rfl) ?_ _;refine OnlyNormal.normal ?_;clear c0 c1 c2' c3';go_wp2_with fail;go_ret;exact ⟨rfl,hB11.out⟩
theorem det_num {Q : List (List Rat)} {n k : Nat} (h : SmE k Q) (hl : Q.length = n) (hn : n <= 900) (hrow : ∀ i,i < n -> (Q[i]?.getD []).length = n) (h1 : (k * n + k + 1) * n < 198) (h2 : k * n + k < 900) (h3 : k * n * n < 4096) :
    Zmu Q n /\ Zhr Q = Z6 n (Zm Q) /\ (Z6 n (Zm Q)).num.natAbs <= pw ((k * n + k + 1) * n) /\ (Z6 n (Zm Q)).den <= pw (k * n * n):=by
 obtain ⟨o1,-,-⟩:=Zm6 (B:=pw (k * n + k)) (S:=pw (k * n)) (Zbn _) (Zbn _) Q hl hrow (fun i hi=>h.denAt (hrow i hi)) (fun i j hi=>h.whole (hrow i hi) j) (Nat.le_refl n);obtain ⟨d1,d2,d3⟩:=Zoh (B:=pw (k * n + k)) (S:=pw (k * n)) (Zbn _) (Zbn _) Q hl hrow (fun i hi=>h.denAt (hrow i hi)) (fun i j hi=>h.whole (hrow i hi) j);have hb:=Zft (b:=k * n + k) n hn;have hbz:=h.byZ hrow n (Nat.le_refl n);have hz : Zay (pw (k * n + k)) n < pw 200:=Nat.lt_of_le_of_lt hb (Zb5 (by omega));have hp:=Zfi Q n;refine ⟨⟨Zfa hz _ _ _ _ _ o1,⟨fun i t hi ht=>?_,fun i j=>?_⟩,fun t ht=>?_,Nat.lt_of_le_of_lt (Nat.le_trans d3 hb) (Zb5 (by omega)),d1⟩,d2,?_⟩
 ·refine Nat.lt_of_le_of_lt (h.denTo i t) (Zb5 ?_)
  have : k * t <= k * n:=Nat.mul_le_mul (Nat.le_refl _) ht;omega
 ·exact Nat.lt_of_le_of_lt (h i j).1 (Zb5 (by omega))
 ·refine Nat.lt_of_le_of_lt (h.byZ hrow t ht) (Zb5 ?_)
  have : k * n * t <= k * n * n:=Nat.mul_le_mul (Nat.le_refl _) ht;omega
 ·have hbr : ((byZ Q n : Nat) : Rat) ≠ 0:=by
    intro h0
    have : byZ Q n = 0:=by exact_mod_cast h0
    omega
  have e1 : ((byZ Q n : Nat) : Rat) * Z6 n (Zm Q) = (Zd1 Q : Rat):=by
   rw [<- d2,<- d1,Rat.divInt_eq_div];have : (((byZ Q n : Nat) : Int) : Rat) = ((byZ Q n : Nat) : Rat):=Rat.intCast_natCast _;rw [this]
   grind
  have h5:=Zep (p:=Z6 n (Zm Q)) ⟨_,e1,Nat.le_trans d3 hb⟩ (⟨((byZ Q n : Nat) : Int),(Rat.intCast_natCast _).symm,by simpa using hbz⟩ : BndQ (pw (k * n * n)) ((byZ Q n : Nat) : Rat)) hbr;exact h5
end Go.Proofs.YtigdclhagmnopaaGreat
