/- Rows of fractions in a block of the call's own, whose -/
import Derived.Laws.Small
import Derived.Test.YthappeninglakaaZq24
set_option maxRecDepth 100000
set_option maxHeartbeats 1000000
set_option linter.unusedSimpArgs false
set_option linter.unusedVariables false
namespace Go.Proofs.Ythappeninglakaa
open Go.RowKit
theorem Zov {es : List FE} {i : Nat} (e : FE) (h : i < es.length) : ((((Zz es).set (i * 4) (.bool e.na)).set (i * 4 + 1) (.slice e.A e.n e.c)).set (i * 4 + 2) (.bool e.nb)).set (i * 4 + 3) (.slice e.B e.m e.d) = Zz (es.set i e):=by
 induction es generalizing i with
 | nil=>simp at h
 | cons a l ih =>
  cases i with
  | zero=>rfl
  | succ i =>
   have:=ih (i:=i) (by simpa using h);rw [show (i + 1) * 4 = i * 4 + 1 + 1 + 1 + 1 by omega];simp only [Zz,List.set_cons_succ,this]
theorem Zir {es : List FE} {i : Nat} (e : FE) (h : i < es.length) : ((((Zak es).setIfInBounds (i * 4) (.bool e.na)).setIfInBounds (i * 4 + 1) (.slice e.A e.n e.c)).setIfInBounds (i * 4 + 2) (.bool e.nb)).setIfInBounds (i * 4 + 3) (.slice e.B e.m e.d) = Zak (es.set i e):=by
 unfold Zak;rw [<- Zov e h];simp
theorem Zg6 {cs : Array Value} (h : NoLimb cs) (i : Nat) {v : Value} (hv : ∀ x,v ≠ limb x) : NoLimb (cs.setIfInBounds i v):=fun j x=>by
 rw [Array.getElem?_setIfInBounds]
 split
 ·split
  ·simpa using hv x
  ·simp
 ·exact h j x
def Zi6 (w : World) (g i : Nat) (na : Bool) (A : Option Addr) (n c : Nat) (nb : Bool) (B : Option Addr) (m d : Nat) : World:=
 (((w.setCell ⟨g,i * 4,none⟩ (.bool na)).setCell ⟨g,i * 4 + 1,none⟩ (.slice A n c)).setCell ⟨g,i * 4 + 2,none⟩ (.bool nb)).setCell ⟨g,i * 4 + 3,none⟩ (.slice B m d)
section
variable {w : World} {g i : Nat} {na : Bool} {A : Option Addr} {n c : Nat} {nb : Bool} {B : Option Addr} {m d : Nat}
theorem Zns {A' : Option Addr} {n' c' : Nat} {l : List Nat} {t : TypeId} {cs : Array Value} (h : Lim w A' n' c' l) (hb : Blk w g t cs) (hcs : NoLimb cs) : Lim (Zi6 w g i na A n c nb B m d) A' n' c' l:=by
 have h1:=hb.set_ (i * 4) (.bool na);have l1:=Zg6 hcs (i * 4) (v:=.bool na) (fun x=>by simp);have h2:=h1.set_ (i * 4 + 1) (.slice A n c);have l2:=Zg6 l1 (i * 4 + 1) (v:=.slice A n c) (fun x=>by simp);have h3:=h2.set_ (i * 4 + 2) (.bool nb);have l3:=Zg6 l2 (i * 4 + 2) (v:=.bool nb) (fun x=>by simp);exact (((h.set_box hb hcs _ _).set_box h1 l1 _ _).set_box h2 l2 _ _).set_box h3 l3 _ _
theorem Zfb {na' : Bool} {A' : Option Addr} {n' c' : Nat} {nb' : Bool} {B' : Option Addr} {m' d' : Nat} {r : Rat} {t : TypeId} {cs : Array Value} (h : Fr w na' A' n' c' nb' B' m' d' r) (hb : Blk w g t cs) (hcs : NoLimb cs) : Fr (Zi6 w g i na A n c nb B m d) na' A' n' c' nb' B' m' d' r:=
 ⟨⟨h.1.1,h.1.2.1,Zns h.1.2.2 hb hcs⟩,⟨h.2.1,h.2.2.1,Zns h.2.2.2 hb hcs⟩⟩
theorem Zkk {g' : Nat} {t : TypeId} {cs : Array Value} (h : Blk w g' t cs) (hg : g' ≠ g) : Blk (Zi6 w g i na A n c nb B m d) g' t cs:=(((h.far hg _).far hg _).far hg _).far hg _
theorem Zll {G : Nat -> Prop} {w0 : World} (h : Kept G w0 w) (hg : G g \/ w0.heap.size <= g) : Kept G w0 (Zi6 w g i na A n c nb B m d):=
 (((h.set_ (p:=⟨g,i * 4,none⟩) hg _).set_ (p:=⟨g,i * 4 + 1,none⟩) hg _).set_ (p:=⟨g,i * 4 + 2,none⟩) hg _).set_ (p:=⟨g,i * 4 + 3,none⟩) hg _
end
def FRaw (t : TypeId) (w : World) (g n : Nat) : Prop:=∃ es : List FE,Blk w g t (Zak es) /\ n <= es.length
def FOwn (t : TypeId) (w : World) (g : Nat) (qs : List Rat) : Prop:=∃ es zs : List FE,Blk w g t (Zak (es ++ zs)) /\ (∀ e ∈ es,e.in_ w) /\ es.map FE.q = qs
section
variable {t : TypeId} {w w' : World} {g : Nat} {qs : List Rat}
theorem FRaw.lt {n : Nat} (h : FRaw t w g n) : g < w.heap.size:=by obtain ⟨es,h1,h2⟩:=h;exact h1.lt
theorem FRaw.box {n : Nat} (h : FRaw t w g n) : ∃ t cs,Blk w g t cs /\ NoLimb cs:=by obtain ⟨es,h1,h2⟩:=h;exact ⟨t,_,h1,Zci es⟩
theorem FRaw.cells {n i : Nat} (h : FRaw t w g n) (hi : i < n) : ∃ na A k c nb B m d,w.cell? ⟨g,i * 4,none⟩ = some (.bool na) /\ w.cell? ⟨g,i * 4 + 1,none⟩ = some (.slice A k c) /\ w.cell? ⟨g,i * 4 + 2,none⟩ = some (.bool nb) /\ w.cell? ⟨g,i * 4 + 3,none⟩ = some (.slice B m d):=by
 obtain ⟨es,h1,hn⟩:=h;have hc:=Zek (List.getElem?_eq_getElem (show i < es.length by omega));exact ⟨_,_,_,_,_,_,_,_,by rw [h1.cell];exact hc.1,by rw [h1.cell];exact hc.2.1,by rw [h1.cell];exact hc.2.2.1,by rw [h1.cell];exact hc.2.2.2⟩
theorem FRaw.frozen {n : Nat} (h : FRaw t w g n) (i : Nat) : w.frozen? ⟨g,i,none⟩ = false:=by obtain ⟨es,h1,-⟩:=h;exact h1.frozen i
theorem FOwn.raw (h : FOwn t w g qs) : FRaw t w g qs.length:=by obtain ⟨es,zs,h1,h2,rfl⟩:=h;exact ⟨es ++ zs,h1,by simp⟩
theorem FOwn.below (h : FOwn t w g qs) (hb : Below w.heap.size w w') : FOwn t w' g qs:=by
 obtain ⟨es,zs,h1,h2,h3⟩:=h;exact ⟨es,zs,Zd hb h1,fun e he=>(h2 e he).below hb,h3⟩
theorem FOwn.lt (h : FOwn t w g qs) : g < w.heap.size:=h.raw.lt
theorem FOwn.box (h : FOwn t w g qs) : ∃ t cs,Blk w g t cs /\ NoLimb cs:=h.raw.box
theorem FOwn.frozen (h : FOwn t w g qs) (i : Nat) : w.frozen? ⟨g,i,none⟩ = false:=h.raw.frozen i
theorem FOwn.take (h : FOwn t w g qs) (k : Nat) : FOwn t w g (qs.take k):=by
 obtain ⟨es,zs,h1,h2,rfl⟩:=h;exact ⟨es.take k,es.drop k ++ zs,by rw [<- List.append_assoc,List.take_append_drop];exact h1,fun e he=>h2 e (List.mem_of_mem_take he),by rw [List.map_take]⟩
theorem FOwn.at_ (h : FOwn t w g qs) {i : Nat} (hi : i < qs.length) : ∃ na A k c nb B m d,w.cell? ⟨g,i * 4,none⟩ = some (.bool na) /\ w.cell? ⟨g,i * 4 + 1,none⟩ = some (.slice A k c) /\ w.cell? ⟨g,i * 4 + 2,none⟩ = some (.bool nb) /\ w.cell? ⟨g,i * 4 + 3,none⟩ = some (.slice B m d) /\ Fr w na A k c nb B m d (qs[i]?.getD 0):=by
 obtain ⟨es,zs,h1,h2,rfl⟩:=h
 have hl : i < es.length:=by simpa using hi
 have he:=List.getElem?_eq_getElem hl;have hc:=Zek (es:=es ++ zs) (i:=i) (e:=es[i]) (by rw [List.getElem?_append_left hl];exact he);refine ⟨_,_,_,_,_,_,_,_,by rw [h1.cell];exact hc.1,by rw [h1.cell];exact hc.2.1,by rw [h1.cell];exact hc.2.2.1,by rw [h1.cell];exact hc.2.2.2,?_⟩;rw [List.getElem?_map,he];exact h2 _ (List.getElem_mem hl)
theorem FOwn.set_ (h : FOwn t w g qs) {i : Nat} (hi : i < qs.length) {na : Bool} {A : Option Addr} {k c : Nat} {nb : Bool} {B : Option Addr} {m d : Nat} {r : Rat} (hr : Fr w na A k c nb B m d r) : FOwn t (Zi6 w g i na A k c nb B m d) g (qs.set i r):=by
 obtain ⟨es,zs,h1,h2,rfl⟩:=h
 have hl : i < es.length:=by simpa using hi
 have h3:=(((h1.set_ (i * 4) (.bool na)).set_ (i * 4 + 1) (.slice A k c)).set_ (i * 4 + 2) (.bool nb)).set_ (i * 4 + 3) (.slice B m d);have hs:=Zir (es:=es ++ zs) (i:=i) ⟨na,A,k,c,nb,B,m,d,r⟩ (by rw [List.length_append];omega);dsimp only at hs;rw [hs,List.set_append_left _ _ hl] at h3;refine ⟨_,zs,h3,fun e he=>?_,by rw [List.map_set]⟩
 rcases List.mem_or_eq_of_mem_set he with he | rfl
 ·exact Zfb (h2 e he) h1 (Zci _)
 ·exact Zfb hr h1 (Zci _)
theorem FOwn.other {g' i : Nat} {na : Bool} {A : Option Addr} {k c : Nat} {nb : Bool} {B : Option Addr} {m d : Nat} (h : FOwn t w g qs) (hne : g ≠ g') (hb : ∃ t cs,Blk w g' t cs /\ NoLimb cs) : FOwn t (Zi6 w g' i na A k c nb B m d) g qs:=by
 obtain ⟨es,zs,h1,h2,h3⟩:=h;obtain ⟨t',cs,hb,hcs⟩:=hb;exact ⟨es,zs,Zkk h1 hne,fun e he=>Zfb (h2 e he) hb hcs,h3⟩
theorem FOwn.fl (h : FOwn t w g qs) {c : Nat} (hc : qs.length <= c) (hm : c <= maxLen) : FL w (some ⟨g,0,none⟩) qs.length c qs:=by
 obtain ⟨es,zs,h1,h2,rfl⟩:=h;rw [List.length_map] at hc ⊢;refine ⟨es,rfl,hc,hm,h2,rfl,fun _=>⟨g,0,rfl,fun k e he=>?_⟩⟩;have hk : k < es.length:=(List.getElem?_eq_some_iff.1 he).1;have hc:=Zek (es:=es ++ zs) (i:=k) (e:=e) (by rw [List.getElem?_append_left hk];exact he);simp only [Nat.zero_add,h1.cell];exact hc
theorem OwnF.fown {base : Nat} {v : Value} (h : OwnF t w base v qs) : (v = .slice none 0 0 /\ qs = []) \/ ∃ g c,v = .slice (some ⟨g,0,none⟩) qs.length c /\ base <= g /\ qs.length <= c /\ c <= maxLen /\ FOwn t w g qs:=by
 obtain ⟨es,h1,h2,rfl⟩:=h
 rcases h1 with ⟨rfl,rfl⟩ | ⟨g,sp,rfl,h4,h5,h6⟩
 ·exact .inl ⟨rfl,rfl⟩
 ·exact .inr ⟨g,_,by rw [List.length_map],h4,by rw [List.length_map];omega,h5,es,List.replicate sp Zbh,h6,h2,rfl⟩
end
attribute [local go_sem] Zj
theorem rat_div {a b : Rat} (h : 0 < b.num) : Rat.divInt (a.num * b.den) ((a.den : Int) * b.num) = a / b:=by
 have hb : ((b.den : Nat) : Int) ≠ 0:=by have:=b.den_pos;omega
 rw [Rat.div_def,<- Rat.divInt_mul_divInt,Rat.num_divInt_den,<- Rat.inv_divInt,Rat.num_divInt_den]
theorem Zpj (na nb na' nb' : Bool) (A B A' B' : Option Addr) (n c m d n' c' m' d' : Nat) (a b : Rat) (w : World) (ha : Fr w na A n c nb B m d a) (hb : Fr w na' A' n' c' nb' B' m' d' b) (sa : Sm a) (sb : Sm b) :
    Calls Try.prog 63 #[.agg #[.bool na,.slice A n c,.bool nb,.slice B m d],.agg #[.bool na',.slice A' n' c',.bool nb',.slice B' m' d']] w (Zn0 w (a - b)):=by
 obtain ⟨W0,hW0,hB0,⟨q0,q1,q2⟩,s0⟩:=Zkc w 78 #[.bool na,.slice A n c,.bool nb,.slice B m d] 78 #[.bool na',.slice A' n' c',.bool nb',.slice B' m' d'] 78 #[.bool false,.slice none 0 0,.bool false,.slice none 0 0];replace ha:=Zb (ha.below hB0);replace hb:=Zb (hb.below hB0);obtain ⟨a0,a1,a2,a3,-⟩:=q0.four;obtain ⟨b0,b1,b2,b3,-⟩:=q1.four;go_enter Try.func63,Try.ntmps63;go_wp2_with fail;refine (Zpn na nb na' nb' A B A' B' n c m d n' c' m' d' a b W0 ha.out hb.out sa sb).mono ?_;rintro e w1 ⟨hb1,nx,Ax,kx,cx,ny,Ay,ky,cy,rfl,hF⟩;have hB1:=hB0.trans (hb1.mono hB0.size);replace q2:=Zb (Zd hb1 q2);replace hF:=Zb hF;clear a0 a1 a2 a3 b0 b1 b2 b3 hW0;obtain ⟨c20,c21,c22,c23,f20,f21,f22,f23⟩:=q2.out.four;obtain ⟨W7,hW7,hB7,q3,kW,-,s7⟩:=Zdp nx Ax kx cx ny Ay ky cy hB1 (by omega) q2.out;obtain ⟨r0,r1,r2,r3,-⟩:=q3.four;go_wp2_with fail;refine bodyPost_ret (v:=.tuple #[.agg #[.bool nx,.slice Ax kx cx,.bool ny,.slice Ay ky cy],.int .i64 0]) (by simp [results,Try.results63,go_sem,r0,r1,r2,r3]) rfl ?_;exact ⟨hB7,_,_,_,_,_,_,_,_,rfl,kW _ _ _ _ _ hF.out.1,kW _ _ _ _ _ hF.out.2⟩
theorem Zpc (na nb na' nb' : Bool) (A B A' B' : Option Addr) (n c m d n' c' m' d' : Nat) (a b : Rat) (w : World) (ha : Fr w na A n c nb B m d a) (hb : Fr w na' A' n' c' nb' B' m' d' b) (sa : Sm a) (sb : Sm b) :
    Calls Try.prog 62 #[.agg #[.bool na,.slice A n c,.bool nb,.slice B m d],.agg #[.bool na',.slice A' n' c',.bool nb',.slice B' m' d']] w (Zn0 w (a * b)):=by
 obtain ⟨W0,hW0,hB0,⟨q0,q1,q2⟩,s0⟩:=Zkc w 78 #[.bool na,.slice A n c,.bool nb,.slice B m d] 78 #[.bool na',.slice A' n' c',.bool nb',.slice B' m' d'] 78 #[.bool false,.slice none 0 0,.bool false,.slice none 0 0];replace ha:=Zb (ha.below hB0);replace hb:=Zb (hb.below hB0);have hH:=Zit na na' nb nb' A A' B B' n c n' c' m d m' d' a.num b.num a.den b.den W0 ha.out.1 hb.out.1 ha.out.2 hb.out.2 (Ze3 sa.1 sb.1) (Ze3 sa.dn sb.dn) (Zis a b);rw [rat_mul] at hH;replace hH:=Zb hH;obtain ⟨a0,a1,a2,a3,-⟩:=q0.four;obtain ⟨b0,b1,b2,b3,-⟩:=q1.four;go_enter Try.func62,Try.ntmps62;go_wp2_with fail;refine (hH.out).mono ?_;rintro e w1 ⟨hb1,nx,Ax,kx,cx,ny,Ay,ky,cy,rfl,hF⟩;have hB1:=hB0.trans (hb1.mono hB0.size);replace q2:=Zb (Zd hb1 q2);replace hF:=Zb hF;clear a0 a1 a2 a3 b0 b1 b2 b3 hW0;obtain ⟨c20,c21,c22,c23,f20,f21,f22,f23⟩:=q2.out.four;obtain ⟨W7,hW7,hB7,q3,kW,-,s7⟩:=Zdp nx Ax kx cx ny Ay ky cy hB1 (by omega) q2.out;obtain ⟨r0,r1,r2,r3,-⟩:=q3.four;go_wp2_with fail;refine bodyPost_ret (v:=.tuple #[.agg #[.bool nx,.slice Ax kx cx,.bool ny,.slice Ay ky cy],.int .i64 0]) (by simp [results,Try.results62,go_sem,r0,r1,r2,r3]) rfl ?_;exact ⟨hB7,_,_,_,_,_,_,_,_,rfl,kW _ _ _ _ _ hF.out.1,kW _ _ _ _ _ hF.out.2⟩
def ev : List Rat -> Rat -> Rat
 | [],_=>0
 | a :: l,x=>a + x * ev l x
def co (l : List Rat) (i : Nat) : Rat:=l[i]?.getD 0
def Zeg : List Rat -> List Rat -> List Rat
 | [],q=>q
 | p,[]=>p
 | a :: p,b :: q=>(a + b) :: Zeg p q
def Zc5 (c : Rat) (p : List Rat) : List Rat:=p.map (c * ·)
def Zee : List Rat -> List Rat -> List Rat
 | [],_=>[]
 | a :: p,q=>Zeg (Zc5 a q) (0 :: Zee p q)
theorem Ze2 (p q : List Rat) (x : Rat) : ev (Zeg p q) x = ev p x + ev q x:=by
 induction p generalizing q with
 | nil=>simp [Zeg,ev];grind
 | cons a p ih =>
  cases q with
  | nil=>simp [Zeg,ev];grind
  | cons b q=>simp only [Zeg,ev,ih];grind
theorem Zbu (c : Rat) (p : List Rat) (x : Rat) : ev (Zc5 c p) x = c * ev p x:=by
 unfold Zc5
 induction p with
 | nil=>simp [ev]
 | cons a p ih=>simp only [List.map_cons,ev,ih];grind
theorem Zh1 (p q : List Rat) (x : Rat) : ev (Zee p q) x = ev p x * ev q x:=by
 induction p with
 | nil=>simp [Zee,ev]
 | cons a p ih=>simp only [Zee,Ze2,Zbu,ev,ih];grind
theorem Zf5 (p q : List Rat) : (Zeg p q).length = max p.length q.length:=by
 induction p generalizing q with
 | nil=>simp [Zeg]
 | cons a p ih =>
  cases q with
  | nil=>simp [Zeg]
  | cons b q=>simp only [Zeg,List.length_cons,ih];omega
theorem Zc9 (c : Rat) (p : List Rat) : (Zc5 c p).length = p.length:=by simp [Zc5]
theorem Ziz (p q : List Rat) : (Zee p q).length <= p.length + q.length - 1 \/ p = [] \/ q = []:=by
 induction p with
 | nil=>exact .inr (.inl rfl)
 | cons a p ih =>
  cases q with
  | nil=>exact .inr (.inr rfl)
  | cons b q =>
   left
   simp only [Zee,Zf5,Zc9,List.length_cons]
   rcases ih with h | h | h
   ·simp only [List.length_cons] at h;omega
   ·subst h;simp [Zee]
   ·cases h
theorem mulL_le (p q : List Rat) : (Zee p q).length <= p.length + q.length:=by
 induction p with
 | nil=>simp [Zee]
 | cons a p ih=>simp only [Zee,Zf5,Zc9,List.length_cons];omega
theorem Zc2 (a : Rat) (l : List Rat) : co (a :: l) 0 = a:=rfl
theorem Zc8 (a : Rat) (l : List Rat) (i : Nat) : co (a :: l) (i + 1) = co l i:=by simp [co]
theorem Zhb {l : List Rat} {i : Nat} (h : l.length <= i) : co l i = 0:=by unfold co;rw [List.getElem?_eq_none h];rfl
theorem Zoz (i : Nat) : co [] i = 0:=by simp [co]
theorem Zgj (p q : List Rat) (i : Nat) : co (Zeg p q) i = co p i + co q i:=by
 induction p generalizing q i with
 | nil=>simp only [Zeg,Zoz];grind
 | cons a p ih =>
  cases q with
  | nil=>simp only [Zeg,Zoz];grind
  | cons b q =>
   cases i with
   | zero=>simp only [Zeg,Zc2]
   | succ i=>simp only [Zeg,Zc8,ih]
theorem Zb3 (c : Rat) (p : List Rat) (i : Nat) : co (Zc5 c p) i = c * co p i:=by
 unfold co Zc5;rw [List.getElem?_map]
 cases p[i]? <;> simp
theorem Zja {p q : List Rat} {n m : Nat} (hp : p.length = n + 1) (hq : q.length = m + 1) : co (Zee p q) (n + m) = co p n * co q m:=by
 induction p generalizing n with
 | nil=>simp at hp
 | cons a p ih =>
  simp only [Zee,Zgj,Zb3]
  cases n with
  | zero =>
   have hp0 : p = []:=List.eq_nil_of_length_eq_zero (by simpa using hp);subst hp0;rw [Nat.zero_add,Zc2]
   cases m with
   | zero=>simp only [Zee,Zc2];grind
   | succ m=>simp only [Zee,Zc8,Zoz];grind
  | succ n =>
   have h:=ih (n:=n) (by simpa using hp);rw [Zhb (l:=q) (by omega),show n + 1 + m = (n + m) + 1 by omega,Zc8,Zc8,h]
   grind
def syn (r : Rat) : List Rat -> List Rat
 | []=>[]
 | [_]=>[]
 | _ :: b :: l=>ev (b :: l) r :: syn r (b :: l)
theorem Zjq (r : Rat) (p : List Rat) : (syn r p).length = p.length - 1:=by
 match p with
 | []=>rfl
 | [a]=>rfl
 | a :: b :: l =>
  have:=Zjq r (b :: l);simp only [syn,List.length_cons] at this ⊢;omega
theorem Zm4 (r : Rat) (p : List Rat) (x : Rat) : ev p x = (x - r) * ev (syn r p) x + ev p r:=by
 match p with
 | []=>simp only [syn,ev];grind
 | [a]=>simp only [syn,ev];grind
 | a :: b :: l =>
  have h:=Zm4 r (b :: l) x;show a + x * ev (b :: l) x = (x - r) * (ev (b :: l) r + x * ev (syn r (b :: l)) x) + (a + r * ev (b :: l) r)
  generalize ev (b :: l) x = A at *
  generalize ev (b :: l) r = B at *
  generalize ev (syn r (b :: l)) x = C at *
  rw [h]
  grind
theorem Zdk {p : List Rat} (h : ∀ c ∈ p,c = 0) (x : Rat) : ev p x = 0:=by
 induction p with
 | nil=>rfl
 | cons a p ih =>
  rw [ev,ih (fun c hc=>h c (List.mem_cons_of_mem _ hc)),h a (List.mem_cons_self ..)]
  grind
theorem Zto {n N : Nat} (h : N < n) : ((n : Nat) : Rat) - (N : Nat) ≠ 0:=by
 intro h0
 have : ((n : Nat) : Rat) = (N : Nat):=by grind
 have : n = N:=by exact_mod_cast this
 omega
theorem Zp9 : ∀ (k : Nat) (p : List Rat),p.length = k -> ∀ N : Nat,(∀ n : Nat,N <= n -> ev p n = 0) -> ∀ c ∈ p,c = 0:=by
 intro k
 induction k with
 | zero =>
  intro p hp N _ c hc;rw [List.eq_nil_of_length_eq_zero hp] at hc
  cases hc
 | succ k ih =>
  intro p hp N h c hc
  have hq : ∀ c ∈ syn (N : Nat) p,c = 0:=ih _ (by rw [Zjq,hp];rfl) (N + 1) (fun n hn=>by
   have h1:=Zm4 (N : Nat) p (n : Nat);rw [h n (by omega),h N (Nat.le_refl _)] at h1;have h2:=Zto (show N < n by omega)
   grind)
  have hz : ∀ x,ev p x = 0:=fun x=>by
   rw [Zm4 (N : Nat) p x,Zdk hq,h N (Nat.le_refl _)]
   grind
  cases p with
  | nil=>cases hc
  | cons a l =>
   have ha : a = 0:=by
    have:=hz 0;rw [ev] at this
    grind
   rcases List.mem_cons.1 hc with rfl | hc
   ·exact ha
   ·refine ih l (by simpa using hp) 1 (fun n hn=>?_) c hc
    have h1:=hz (n : Nat);rw [ev,ha] at h1;have h2:=Zto (show 0 < n by omega)
    grind
theorem Zdd {p q : List Rat} (h : ∀ x,ev p x = ev q x) (i : Nat) : co p i = co q i:=by
 have h1:=Zp9 _ (Zeg p (Zc5 (-1) q)) rfl 0 (fun n _=>by rw [Ze2,Zbu,h];grind)
 have h2 : co (Zeg p (Zc5 (-1) q)) i = 0:=by
  unfold co
  cases hc : (Zeg p (Zc5 (-1) q))[i]? with
  | none=>rfl
  | some c=>exact h1 c (List.mem_of_getElem? hc)
 rw [Zgj,Zb3] at h2
 grind
def PF (n : Nat) (f : Rat -> Rat) : Prop:=∃ l : List Rat,l.length <= n /\ ∀ x,f x = ev l x
def Deg (n : Nat) (f : Rat -> Rat) : Prop:=∃ l : List Rat,l.length = n /\ (n = 0 \/ co l (n - 1) ≠ 0) /\ ∀ x,f x = ev l x
def Pol (f : Rat -> Rat) : Prop:=∃ n,PF n f
def Dvd (u f : Rat -> Rat) : Prop:=∃ q,Pol q /\ ∀ x,f x = q x * u x
theorem PF.mono {n m : Nat} {f : Rat -> Rat} (h : PF n f) (hn : n <= m) : PF m f:=by obtain ⟨l,h1,h2⟩:=h;exact ⟨l,by omega,h2⟩
theorem PF.congr {n : Nat} {f g : Rat -> Rat} (h : PF n f) (hg : ∀ x,g x = f x) : PF n g:=by obtain ⟨l,h1,h2⟩:=h;exact ⟨l,h1,fun x=>by rw [hg,h2]⟩
theorem PF.add {n m : Nat} {f g : Rat -> Rat} (h : PF n f) (k : PF m g) : PF (max n m) (fun x=>f x + g x):=by
 obtain ⟨l,h1,h2⟩:=h;obtain ⟨l',k1,k2⟩:=k;exact ⟨Zeg l l',by rw [Zf5];omega,fun x=>by rw [Ze2,<- h2,<- k2]⟩
theorem PF.smul {n : Nat} {f : Rat -> Rat} (c : Rat) (h : PF n f) : PF n (fun x=>c * f x):=by
 obtain ⟨l,h1,h2⟩:=h;exact ⟨Zc5 c l,by rw [Zc9];exact h1,fun x=>by rw [Zbu,<- h2]⟩
theorem PF.mul {n m : Nat} {f g : Rat -> Rat} (h : PF n f) (k : PF m g) : PF (n + m) (fun x=>f x * g x):=by
 obtain ⟨l,h1,h2⟩:=h;obtain ⟨l',k1,k2⟩:=k;exact ⟨Zee l l',by have:=mulL_le l l';omega,fun x=>by rw [Zh1,<- h2,<- k2]⟩
theorem PF.const (c : Rat) : PF 1 (fun _=>c):=⟨[c],Nat.le_refl _,fun x=>by simp [ev];grind⟩
theorem PF.id : PF 2 (fun x=>x):=⟨[0,1],Nat.le_refl _,fun x=>by simp [ev];grind⟩
theorem Pol.add {f g : Rat -> Rat} (h : Pol f) (k : Pol g) : Pol (fun x=>f x + g x):=by obtain ⟨_,h⟩:=h;obtain ⟨_,k⟩:=k;exact ⟨_,h.add k⟩
theorem Pol.mul {f g : Rat -> Rat} (h : Pol f) (k : Pol g) : Pol (fun x=>f x * g x):=by obtain ⟨_,h⟩:=h;obtain ⟨_,k⟩:=k;exact ⟨_,h.mul k⟩
theorem Pol.smul {f : Rat -> Rat} (c : Rat) (h : Pol f) : Pol (fun x=>c * f x):=by obtain ⟨_,h⟩:=h;exact ⟨_,h.smul c⟩
theorem Pol.const (c : Rat) : Pol (fun _=>c):=⟨_,PF.const c⟩
theorem Pol.congr {f g : Rat -> Rat} (h : Pol f) (hg : ∀ x,g x = f x) : Pol g:=by obtain ⟨_,h⟩:=h;exact ⟨_,h.congr hg⟩
theorem Pol.sub {f g : Rat -> Rat} (h : Pol f) (k : Pol g) : Pol (fun x=>f x - g x):=(h.add (k.smul (-1))).congr fun x=>by grind
theorem Pol.pow {f : Rat -> Rat} (h : Pol f) : ∀ m : Nat,Pol (fun x=>f x ^ m)
 | 0=>(Pol.const 1).congr fun x=>by rw [Rat.pow_zero]
 | m + 1=>((h.pow m).mul h).congr fun x=>by rw [Rat.pow_succ]
theorem Deg.pf {n : Nat} {f : Rat -> Rat} (h : Deg n f) : PF n f:=by obtain ⟨l,h1,h2,h3⟩:=h;exact ⟨l,by omega,h3⟩
theorem Deg.pol {n : Nat} {f : Rat -> Rat} (h : Deg n f) : Pol f:=⟨_,h.pf⟩
theorem Deg.congr {n : Nat} {f g : Rat -> Rat} (h : Deg n f) (hg : ∀ x,g x = f x) : Deg n g:=by obtain ⟨l,h1,h2,h3⟩:=h;exact ⟨l,h1,h2,fun x=>by rw [hg,h3]⟩
theorem Zpt {l : List Rat} {n : Nat} (h : l.length = n + 1) (hz : co l n = 0) (x : Rat) : ev l x = ev (l.take n) x:=by
 induction l generalizing n with
 | nil=>simp at h
 | cons a l ih =>
  cases n with
  | zero =>
   have : l = []:=List.eq_nil_of_length_eq_zero (by simpa using h);subst this;rw [Zc2] at hz;simp only [ev,hz,List.take_zero];grind
  | succ n =>
   rw [Zc8] at hz;rw [ev,List.take_succ_cons,ev,ih (by simpa using h) hz]
theorem PF.deg {n : Nat} {f : Rat -> Rat} (h : PF n f) : ∃ m,m <= n /\ Deg m f:=by
 obtain ⟨l,h1,h2⟩:=h;obtain ⟨k,hk⟩ : ∃ k,l.length = k:=⟨_,rfl⟩;rw [hk] at h1
 induction k generalizing l n with
 | zero=>exact ⟨0,Nat.zero_le _,l,hk,.inl rfl,h2⟩
 | succ k ih =>
  by_cases hz : co l k = 0
  ·obtain ⟨m,hm,hd⟩:=ih (n:=n) (l.take k) (by intro x;rw [h2,Zpt hk hz]) (by omega) (by rw [List.length_take,hk];omega)
   exact ⟨m,hm,hd⟩
  ·exact ⟨k + 1,h1,l,hk,.inr hz,h2⟩
theorem Pol.deg {f : Rat -> Rat} (h : Pol f) : ∃ m,Deg m f:=by
 obtain ⟨n,h⟩:=h;obtain ⟨m,-,hm⟩:=h.deg;exact ⟨m,hm⟩
theorem Deg.le_of_pf {n m : Nat} {f : Rat -> Rat} (h : Deg n f) (k : PF m f) : n <= m:=by
 obtain ⟨l,h1,h2,h3⟩:=h;obtain ⟨l',k1,k2⟩:=k
 rcases h2 with h2 | h2
 ·omega
 ·have:=Zdd (p:=l) (q:=l') (fun x=>by rw [<- h3,<- k2]) (n - 1)
  rcases Nat.lt_or_ge m n with h4 | h4
  ·rw [this,Zhb (by omega)] at h2;exact absurd rfl h2
  ·exact h4
theorem Deg.unique {n m : Nat} {f : Rat -> Rat} (h : Deg n f) (k : Deg m f) : n = m:=Nat.le_antisymm (h.le_of_pf k.pf) (k.le_of_pf h.pf)
theorem Deg.mul {n m : Nat} {f g : Rat -> Rat} (h : Deg (n + 1) f) (k : Deg (m + 1) g) : Deg (n + m + 1) (fun x=>f x * g x):=by
 obtain ⟨l,h1,h2,h3⟩:=h;obtain ⟨l',k1,k2,k3⟩:=k
 have hl : (Zee l l').length = n + m + 1:=by
  have hc:=Zja h1 k1
  have h4 : co (Zee l l') (n + m) ≠ 0:=by
   rw [hc]
   rcases h2 with h2 | h2
   ·omega
   rcases k2 with k2 | k2
   ·omega
   rw [Nat.add_sub_cancel] at h2 k2;intro h0
   rcases Rat.mul_eq_zero.1 h0 with h | h
   ·exact h2 h
   ·exact k2 h
  rcases Ziz l l' with h5 | h5 | h5
  ·rcases Nat.lt_or_ge (n + m) (Zee l l').length with h6 | h6
   ·omega
   ·rw [Zhb h6] at h4;exact absurd rfl h4
  ·rw [h5] at h1;simp at h1
  ·rw [h5] at k1;simp at k1
 refine ⟨Zee l l',hl,.inr ?_,fun x=>by rw [Zh1,<- h3,<- k3]⟩;rw [Nat.add_sub_cancel,Zja h1 k1]
 rcases h2 with h2 | h2
 ·omega
 rcases k2 with k2 | k2
 ·omega
 rw [Nat.add_sub_cancel] at h2 k2;intro h0
 rcases Rat.mul_eq_zero.1 h0 with h | h
 ·exact h2 h
 ·exact k2 h
theorem Deg.zero {f : Rat -> Rat} (h : Deg 0 f) (x : Rat) : f x = 0:=by
 obtain ⟨l,h1,h2,h3⟩:=h;rw [h3,List.eq_nil_of_length_eq_zero h1];rfl
theorem Zh3 {f : Rat -> Rat} (h : ∀ x,f x = 0) : Deg 0 f:=⟨[],rfl,.inl rfl,fun x=>by rw [h];rfl⟩
def Zf8 (f : Rat -> Rat) : Prop:=∀ x,f x = 0
theorem Zfy {f g : Rat -> Rat} (hf : Pol f) (hg : Pol g) (h : ∀ x,f x * g x = 0) : Zf8 f \/ Zf8 g:=by
 obtain ⟨n,hn⟩:=hf.deg;obtain ⟨m,hm⟩:=hg.deg
 cases n with
 | zero=>exact .inl hn.zero
 | succ n =>
  cases m with
  | zero=>exact .inr hm.zero
  | succ m=>exact absurd ((hn.mul hm).unique (Zh3 h)) (by omega)
theorem Zd6 {u a b : Rat -> Rat} (hu : Pol u) (hz : ¬ Zf8 u) (ha : Pol a) (hb : Pol b) (h : ∀ x,u x * a x = u x * b x) (x : Rat) : a x = b x:=by
 rcases Zfy hu (ha.sub hb) (fun x=>by have:=h x;grind) with h1 | h1
 ·exact absurd h1 hz
 ·have:=h1 x;grind
theorem Dvd.refl {f : Rat -> Rat} : Dvd f f:=⟨fun _=>1,Pol.const 1,fun x=>by grind⟩
theorem Dvd.mul {f g k : Rat -> Rat} (a : Dvd f g) (hk : Pol k) : Dvd f (fun x=>k x * g x):=by
 obtain ⟨q,hq,h1⟩:=a;exact ⟨fun x=>k x * q x,hk.mul hq,fun x=>by show k x * g x = _;rw [h1];grind⟩
theorem Dvd.add {f g h : Rat -> Rat} (a : Dvd f g) (b : Dvd f h) : Dvd f (fun x=>g x + h x):=by
 obtain ⟨q,hq,h1⟩:=a;obtain ⟨r,hr,h2⟩:=b;exact ⟨fun x=>q x + r x,hq.add hr,fun x=>by show g x + h x = _;rw [h1,h2];grind⟩
theorem Dvd.congr {f g h : Rat -> Rat} (a : Dvd f g) (hg : ∀ x,h x = g x) : Dvd f h:=by
 obtain ⟨q,hq,h1⟩:=a;exact ⟨q,hq,fun x=>by rw [hg,h1]⟩
theorem Dvd.const {f g : Rat -> Rat} {c : Rat} (hc : c ≠ 0) (h : Dvd f (fun x=>c * g x)) : Dvd f g:=by
 obtain ⟨q,hq,h1⟩:=h;exact ⟨fun x=>c⁻¹ * q x,hq.smul _,fun x=>by have:=h1 x;grind⟩
theorem Dvd.zero {f g : Rat -> Rat} (h : Zf8 g) : Dvd f g:=⟨fun _=>0,Pol.const 0,fun x=>by rw [h x];grind⟩
theorem Dvd.deg_le {f g : Rat -> Rat} {n m : Nat} (h : Dvd f g) (hf : Deg n f) (hg : Deg m g) (hz : ¬ Zf8 g) : n <= m:=by
 obtain ⟨q,hq,h1⟩:=h;obtain ⟨k,hk⟩:=hq.deg
 cases k with
 | zero=>exact absurd (fun x=>by rw [h1,hk.zero];grind) hz
 | succ k =>
  cases n with
  | zero=>exact Nat.zero_le _
  | succ n =>
   have:=((hk.mul hf).congr h1).unique hg;omega
theorem Zkp {p : Nat -> Prop} (h : ∃ n,p n) : ∃ n,p n /\ ∀ m,m < n -> ¬ p m:=by
 obtain ⟨n,hn⟩:=h
 induction n using Nat.strongRecOn with
 | _ n ih =>
  by_cases hm : ∃ m,m < n /\ p m
  ·obtain ⟨m,hlt,hp⟩:=hm
   exact ih m hlt hp
  ·exact ⟨n,hn,fun m hlt hp=>hm ⟨m,hlt,hp⟩⟩
theorem Zjc {f : Rat -> Rat} (hf : Pol f) (hz : ¬ Zf8 f) : ∃ n,Deg (n + 1) f:=by
 obtain ⟨n,hn⟩:=hf.deg
 cases n with
 | zero=>exact absurd hn.zero hz
 | succ n=>exact ⟨n,hn⟩
def PrimeP (u : Rat -> Rat) : Prop:=(∃ n,Deg (n + 2) u) /\ ∀ a b,Pol a -> Pol b -> Dvd u (fun x=>a x * b x) -> Dvd u a \/ Dvd u b
theorem Pol.root {f : Rat -> Rat} (hf : Pol f) {r : Rat} (h : f r = 0) : Dvd (fun x=>x - r) f:=by
 obtain ⟨n,l,h1,h2⟩:=hf;refine ⟨ev (syn r l),⟨_,syn r l,Nat.le_refl _,fun x=>rfl⟩,fun x=>?_⟩;have:=Zm4 r l x;rw [<- h2,<- h2,h] at this;rw [this];grind
theorem deg_lin (r : Rat) : Deg 2 (fun x=>x - r):=⟨[-r,1],rfl,.inr (by show co [-r,1] 1 ≠ 0;simp [co]),fun x=>by simp only [ev];grind⟩
def evD : List Rat -> Rat -> Rat
 | [],_=>0
 | _ :: l,x=>ev l x + x * evD l x
def HasD (f d : Rat -> Rat) : Prop:=∃ l,(∀ x,f x = ev l x) /\ ∀ x,d x = evD l x
theorem Ztu {u : Rat -> Rat} (hu : Pol u) (hz : ¬ Zf8 u) : ∀ m : Nat,¬ Zf8 (fun x=>u x ^ m)
 | 0=>fun h=>by have:=h 0;simp only [Rat.pow_zero] at this;exact absurd this (by decide)
 | m + 1=>fun h=>by
  rcases Zfy (hu.pow m) hu (fun x=>by have:=h x;simp only [Rat.pow_succ] at this;exact this) with h1 | h1
  ·exact Ztu hu hz m h1
  ·exact hz h1
def cz (p : List Int) (i : Nat) : Int:=p[i]?.getD 0
theorem Zqq (p : List Int) : ∀ k i,i < k -> Zcn p k ∣ cz p i:=by
 intro k
 induction k with
 | zero=>intro i hi;omega
 | succ k ih =>
  intro i hi;unfold Zcn Zfr
  rcases Nat.lt_or_ge i k with h | h
  ·refine Int.dvd_trans ?_ (ih i h)
   rw [<- Int.dvd_natAbs];exact Int.ofNat_dvd.2 (Nat.gcd_dvd_left _ _)
  ·obtain rfl : i = k:=by omega
   show _ ∣ cz p i;rw [<- Int.dvd_natAbs];exact Int.ofNat_dvd.2 (Nat.gcd_dvd_right _ _)
theorem Zda {p : List Int} {i : Nat} (h : p.length <= i) : cz p i = 0:=by unfold cz;rw [List.getElem?_eq_none h];rfl
theorem Zdt (p : List Int) (i : Nat) : Zaf p ∣ cz p i:=by
 rcases Nat.lt_or_ge i p.length with h | h
 ·exact Zqq p _ i h
 ·rw [Zda h];exact Int.dvd_zero _
theorem Zmg (p : List Int) (k : Nat) : 0 <= Zcn p k:=by
 cases k with
 | zero=>exact Int.le_refl _
 | succ k=>unfold Zcn Zfr;omega
theorem Ze7 (p : List Int) : 0 <= Zaf p:=Zmg p _
theorem Zr5 {p : List Int} {z : Int} (h : ∀ i,z ∣ cz p i) : ∀ k,z ∣ Zcn p k:=by
 intro k
 induction k with
 | zero=>exact Int.dvd_zero _
 | succ k ih =>
  unfold Zcn Zfr;rw [<- Int.natAbs_dvd];refine Int.ofNat_dvd.2 (Nat.dvd_gcd ?_ ?_)
  ·exact Int.natAbs_dvd_natAbs.2 ih
  ·exact Int.natAbs_dvd_natAbs.2 (h k)
theorem Zgu {p : List Int} {z : Int} (h : ∀ i,z ∣ cz p i) : z ∣ Zaf p:=Zr5 h _
theorem Zij {a b : Int} (h1 : a ∣ b) (h2 : b ∣ a) : a.natAbs = b.natAbs:=Nat.dvd_antisymm (Int.natAbs_dvd_natAbs.2 h1) (Int.natAbs_dvd_natAbs.2 h2)
theorem Ze1 (p : List Int) (t : Int) (i : Nat) : cz (p.map (t * ·)) i = t * cz p i:=by
 unfold cz;rw [List.getElem?_map]
 cases p[i]? <;> simp
theorem Zif {p q : List Int} {t : Int} (h : ∀ i,cz q i = t * cz p i) : (Zaf q).natAbs = t.natAbs * (Zaf p).natAbs:=by
 rw [<- Int.natAbs_mul];refine Zij ?_ (Zgu fun i=>by rw [h];exact Int.mul_dvd_mul_left _ (Zdt p i))
 by_cases ht : t = 0
 ·subst ht;rw [Int.zero_mul];exact Int.dvd_zero _
 ·have h1 : t ∣ Zaf q:=Zgu fun i=>by rw [h];exact Int.dvd_mul_right _ _
  obtain ⟨c,hc⟩:=h1;rw [hc];refine Int.mul_dvd_mul_left _ (Zgu fun i=>?_);have h2:=Zdt q i;rw [hc,h] at h2;exact Int.dvd_of_mul_dvd_mul_left ht h2
def PrN (l : Nat) : Prop:=1 < l /\ ∀ m,m ∣ l -> m = 1 \/ m = l
theorem Zm5 {d : Nat} (h : d ≠ 1) : ∃ l,PrN l /\ l ∣ d:=by
 by_cases h0 : d = 0
 ·subst h0
  refine ⟨2,⟨by omega,fun m hm=>?_⟩,Nat.dvd_zero _⟩;have:=Nat.le_of_dvd (by omega) hm
  have h3 : m ≠ 0:=by rintro rfl;have:=Nat.eq_zero_of_zero_dvd hm;omega
  omega
 ·obtain ⟨l,⟨h1,h2⟩,hmin⟩:=Zkp (p:=fun l=>1 < l /\ l ∣ d) ⟨d,by omega,Nat.dvd_refl _⟩
  refine ⟨l,⟨h1,fun m hm=>?_⟩,h2⟩;have hle:=Nat.le_of_dvd (by omega) hm
  by_cases hm1 : m = 1
  ·exact .inl hm1
  ·right
   rcases Nat.lt_or_ge m l with h3 | h3
   ·refine absurd ⟨?_,Nat.dvd_trans hm h2⟩ (hmin m h3)
    have : m ≠ 0:=by rintro rfl;have:=Nat.eq_zero_of_zero_dvd hm;omega
    omega
   ·omega
theorem PrN.euclid {l : Nat} (h : PrN l) {a b : Nat} (hab : l ∣ a * b) : l ∣ a \/ l ∣ b:=by
 rcases h.2 (Nat.gcd l a) (Nat.gcd_dvd_left _ _) with h1 | h1
 ·right
  exact Nat.Coprime.dvd_of_dvd_mul_left h1 hab
 ·left
  rw [<- h1];exact Nat.gcd_dvd_right _ _
theorem PrN.euclidZ {l : Nat} (h : PrN l) {a b : Int} (hab : (l : Int) ∣ a * b) : (l : Int) ∣ a \/ (l : Int) ∣ b:=by
 have : l ∣ a.natAbs * b.natAbs:=by
  rw [<- Int.natAbs_mul];exact Int.ofNat_dvd.1 (by rw [Int.dvd_natAbs];exact hab)
 rcases h.euclid this with h1 | h1
 ·exact .inl (by rw [<- Int.dvd_natAbs];exact Int.ofNat_dvd.2 h1)
 ·exact .inr (by rw [<- Int.dvd_natAbs];exact Int.ofNat_dvd.2 h1)
theorem Ztg {f : Nat -> Int} {l : Int} {i : Nat} : ∀ n,(∀ s,s < n -> s ≠ i -> l ∣ f s) -> i < n -> l ∣ Zcr f n -> l ∣ f i:=by
 intro n
 induction n with
 | zero=>intro _ hi;omega
 | succ n ih =>
  intro h hi hd;rw [Zcr] at hd
  by_cases hin : i = n
  ·subst hin
   have h1 : l ∣ Zcr f i:=by
    have : ∀ k,k <= i -> l ∣ Zcr f k:=by
     intro k
     induction k with
     | zero=>intro _;exact Int.dvd_zero _
     | succ k ihk=>intro hk;rw [Zcr];exact Int.dvd_add (ihk (by omega)) (h k (by omega) (by omega))
    exact this i (Nat.le_refl _)
   exact (Int.dvd_iff_dvd_of_dvd_add hd).1 h1
  ·exact ih (fun s hs hsi=>h s (by omega) hsi) (by omega) ((Int.dvd_iff_dvd_of_dvd_add hd).2 (h n (by omega) (by omega)))
theorem gauss {a b : List Int} (ha : Zaf a = 1) (hb : Zaf b = 1) : Zaf (Zef a b) = 1:=by
 apply Classical.byContradiction
 intro hne;have h0:=Ze7 (Zef a b);obtain ⟨l,hl,hd⟩:=Zm5 (d:=(Zaf (Zef a b)).natAbs) (by omega)
 have hall : ∀ i,(l : Int) ∣ coP a b i:=fun i=>by
  rw [<- Zrq];exact Int.dvd_trans (by rw [<- Int.dvd_natAbs];exact Int.ofNat_dvd.2 hd) (Zdt (Zef a b) i)
 have hex : ∀ p : List Int,Zaf p = 1 -> ∃ i,¬ (l : Int) ∣ cz p i:=fun p hp=>by
  apply Classical.byContradiction
  intro hno
  have : (l : Int) ∣ Zaf p:=Zgu fun i=>Classical.byContradiction fun h=>hno ⟨i,h⟩
  rw [hp] at this;have h1:=Int.ofNat_dvd.1 (show (l : Int) ∣ ((1 : Nat) : Int) from this);have:=Nat.le_of_dvd (by omega) h1;have:=hl.1;omega
 obtain ⟨i,hi,hi2⟩:=Zkp (hex a ha);obtain ⟨j,hj,hj2⟩:=Zkp (hex b hb)
 have h1 : (l : Int) ∣ a[i]?.getD 0 * b[i + j - i]?.getD 0:=by
  have h2:=hall (i + j);unfold coP at h2;refine Ztg (f:=fun s=>a[s]?.getD 0 * b[i + j - s]?.getD 0) (i + j + 1) (fun s hs hsi=>?_) (by omega) h2
  rcases Nat.lt_or_ge s i with h3 | h3
  ·exact Int.dvd_trans (Classical.byContradiction fun h=>hi2 s h3 h) (Int.dvd_mul_right _ _)
  ·exact Int.dvd_trans (Classical.byContradiction fun h=>hj2 (i + j - s) (by omega) h) (Int.dvd_mul_left _ _)
 rw [show i + j - i = j by omega] at h1
 rcases hl.euclidZ h1 with h2 | h2
 ·exact hi h2
 ·exact hj h2
theorem Zqy : 1 < pw 1:=by rw [Zal,Zdh];decide
def SmN (i j : Nat) (r : Rat) : Prop:=r.num.natAbs < pw i /\ r.den < pw j
theorem SmN.sm {i j : Nat} {r : Rat} (h : SmN i j r) (hi : i <= 1000) (hj : j <= 1000) : Sm r:=⟨Nat.lt_of_lt_of_le h.1 (Zdn hi),Nat.lt_of_lt_of_le h.2 (Zdn hj)⟩
theorem SmN.int {i : Nat} {n : Int} (hn : n.natAbs < pw i) : SmN i 1 (n : Rat):=⟨by simpa using hn,by simp only [Rat.den_intCast];exact Zqy⟩
def Z2 (xs : List Int) : Bool:=match xs.getLast? with | some x=>decide (x ≠ 0) | none=>true
theorem Zby (xs : List Int) : Z2 (Zf xs) = true:=by
 have h:=Zb0 xs;unfold Z2
 cases hl : (Zf xs).getLast? with
 | none=>rfl
 | some x=>simpa using h x hl
theorem Zbo (xs : List Int) : (Zf xs).length <= xs.length:=by
 induction xs with
 | nil=>exact Nat.le_refl _
 | cons x l ih =>
  unfold Zf
  split
  ·split <;> simp
  ·rename_i y m hm
   rw [hm] at ih;simp only [List.length_cons] at ih ⊢;omega
theorem pw_dbl (k : Nat) : pw k + pw k <= pw (k + 1):=by rw [Zal];generalize pw k = x;omega
end Go.Proofs.Ythappeninglakaa
