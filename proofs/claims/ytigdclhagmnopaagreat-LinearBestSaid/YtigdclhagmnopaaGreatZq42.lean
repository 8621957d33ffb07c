/- The reference's Least. Normal and Least of both sides -/
import Derived.Test.YtigdclhagmnopaaGreatZq41
set_option linter.unusedSimpArgs false
set_option linter.unusedVariables false
namespace Go.Proofs.YtigdclhagmnopaaGreat
open Go.RowKit
attribute [local go_sem] Zh
theorem Zqy {rs:List RI} {ws:List Int} {n m i:Nat} (h:i < m):(Zd9 rs ws n m)[i]?.getD []=Zo6 rs ws n m i:=by
 unfold Zd9 Zo6;rw [List.getElem?_map,List.getElem?_range h];rfl
theorem b40_out {least x:Int} (h:Zgq least x=false) (h0:-1099511627776 <= least):B40 x:=by
 unfold Zgq at h;simp only [Bool.or_eq_false_iff,decide_eq_false_iff_not] at h;unfold B40;omega
theorem Zla {least:Int} {l:List Int} (h:Zda least l=false) (h0:-1099511627776 <= least) (i:Nat):B40 (l[i]?.getD 0):=by
 unfold Zda at h;rw [List.any_eq_false] at h
 by_cases hi:i < l.length
 ·rw [List.getElem?_eq_getElem hi]
  exact b40_out (by simpa using h _ (List.getElem_mem hi)) h0
 ·rw [List.getElem?_eq_none (by omega)]
  show (0:Int).natAbs <= _
  decide
theorem Zhw {rs:List RI} {rr ws:List Int} (h:Zb2 rs rr ws=0):(∀ r k,B40 (Zv rs k r))/\(∀ r,B40 (Z5 rr r))/\∀ r,B40 (Z5 ws r):=by
 obtain ⟨f1,f2,f3,f4,f5,f6,f7,f8⟩:=Zbq h;refine ⟨fun r k=>?_,fun r=>Zla f7 (by decide) r,fun r=>Zla f6 (by decide) r⟩;unfold Zv
 by_cases hr:r < rs.length
 ·rw [List.getElem?_eq_getElem hr]
  exact Zla (f8 _ (List.getElem_mem hr)).2 (by decide) k
 ·rw [List.getElem?_eq_none (l:=rs) (i:=r) (by omega)]
  show (0:Int).natAbs <= _
  decide
def Za0 (rs:List RI) (ws:List Int) (n:Nat):Nat->Nat->Rat:=fun i j=>((Za4 ws (Zv rs i) (Zv rs j) n:Int):Rat)
section
variable {rs:List RI} {rr ws:List Int} {n m:Nat}
theorem Zf2 {i j:Nat} (hi:i < m):Zn (Zbi rs rr ws n m) i j=if j < m then Za0 rs ws n i j else if j=m then ((Za4 ws (Zv rs i) (Z5 rr) n:Int):Rat) else 0:=by
 unfold Zn Zbi;rw [List.getElem?_map,List.getElem?_range hi,Option.map_some,Option.getD_some]
 by_cases hj:j < m
 ·rw [if_pos hj,Zqv hj];rfl
 ·rw [if_neg hj]
  by_cases hjm:j=m
  ·subst hjm;rw [if_pos rfl,Zno];rfl
  ·rw [if_neg hjm,List.getElem?_eq_none (by rw [Zel];omega)];rfl
theorem Znu:(Zbi rs rr ws n m).length=m:=by unfold Zbi;simp
theorem Zu8 {i:Nat} (hi:i < m):((Zbi rs rr ws n m)[i]?.getD []).length=m+1:=by
 unfold Zbi;rw [List.getElem?_map,List.getElem?_range hi,Option.map_some,Option.getD_some,Zel]
theorem Zt6 (hn:n <= 200) (hE:Zb2 rs rr ws=0) (i j:Nat):BndQ (pw 4) (Zn (Zbi rs rr ws n m) i j):=by
 obtain ⟨b1,b2,b3⟩:=Zhw hE
 by_cases hi:i < m
 ·rw [Zf2 hi]
  by_cases hj:j < m
  ·rw [if_pos hj];exact ⟨_,rfl,Zew hn fun r _=>⟨b3 r,b1 r i,b1 r j⟩⟩
  ·rw [if_neg hj]
   by_cases hjm:j=m
   ·rw [if_pos hjm];exact ⟨_,rfl,Zew hn fun r _=>⟨b3 r,b1 r i,b2 r⟩⟩
   ·rw [if_neg hjm];exact BndQ.zero
 ·unfold Zn
  rw [List.getElem?_eq_none (l:=Zbi rs rr ws n m) (by rw [Znu];omega)];exact BndQ.zero
theorem BndQ.den {B:Nat} {q:Rat} (h:BndQ B q):q.den=1:=by
 obtain ⟨z,rfl,-⟩:=h;exact Rat.den_intCast z
theorem BndQ.num {B:Nat} {q:Rat} (h:BndQ B q):q.num.natAbs <= B:=by
 obtain ⟨z,rfl,hz⟩:=h;rw [Rat.num_intCast];exact hz
end
theorem Zon {B:Nat} {R:List (List Rat)} (h:∀ i j,BndQ B (Zn R i j)) (i k:Nat):denTo (R[i]?.getD []) k=1:=by
 have h1:=Zpe (R[i]?.getD []) (D:=1) (fun j=>by
  have:=(h i j).den;unfold Zn at this
  rw [this];exact Nat.le_refl _) k
 have h2:=Zd0 (R[i]?.getD []) k;rw [Nat.one_pow] at h1;omega
theorem Zvb {B:Nat} {R:List (List Rat)} (h:∀ i j,BndQ B (Zn R i j)) (i j:Nat):(Zaf (Zt R) i j).natAbs <= B:=by
 have h1:=Zf8 R i j;obtain ⟨z,hz,hb⟩:=h i j;have hd:denAt R i=1:=Zon h i _;rw [hd,hz] at h1
 have h2:((Zaf (Zt R) i j:Int):Rat)=(z:Rat):=by
  rw [h1];have:((1:Nat):Rat)=1:=rfl;rw [this];grind
 rw [Rat.intCast_inj.1 h2];exact hb
theorem Zoz {b n m:Nat} {R:List (List Rat)} (h:∀ i j,BndQ (pw b) (Zn R i j)) (hl:R.length=n) (hn:n <= 900) (hrow:∀ i,i < n->(R[i]?.getD []).length=m) (hnm:n <= m) (h1:(b+1) * n < 189) (hb:b < 900) :
    okZ (pw 200) m n 0 0 (Zt R) 1/\okR (pw 200) (pw 200) m n 0 0 R/\Zgl R n m/\(Zae n 0 0 (Zt R) false 1).2.1=(Zak n 0 0 R false).2.1/\(Zak n 0 0 R false).2.1 <= n /\
    ((Zak n 0 0 R false).2.1 < n->Z1 n (Zn R)=0) /\
    ((Zak n 0 0 R false).2.1=n->Z1 n (Zn R) ≠ 0/\∃ X:Nat->Nat->Rat,Zfc (Zn (Zak n 0 0 R false).1) X n m/\Zfc (fun i j=>(Zaf (Zae n 0 0 (Zt R) false 1).1 i j:Rat)) X n m/\SolQ (Zn R) X n m):=by
 have hbd:=Zgb (b:=b) n hn;obtain ⟨B,hB⟩:∃ B,Za1 (pw b) n=B:=⟨_,rfl⟩;rw [hB] at hbd;obtain ⟨d,hd⟩:∃ d,(b+1) * n=d:=⟨_,rfl⟩;rw [hd] at hbd h1;have bb:B * B <= pw (d+d):=Zcb hbd hbd
 have g1:(n+1) * (B * B) < pw 400:=by
  have h6:(n+1) * (B * B) <= pw (1+(d+d)):=Zcb (Zkp (by omega)) bb;exact Nat.lt_of_le_of_lt h6 (Zb0 (by omega))
 have g2:B * B * 1 < pw 400:=by rw [Nat.mul_one];exact Nat.lt_of_le_of_lt bb (Zb0 (by omega))
 have g3:B * 1 < pw 300:=by rw [Nat.mul_one];exact Nat.lt_of_le_of_lt hbd (Zb0 (by omega))
 have hs:=Zmc (B:=pw b) (S:=1) (Zbt _) (Nat.le_refl _) R hl hrow (fun i hi=>Nat.le_of_eq (Zon h i _)) (fun i j _=>Zvb h i j) hnm (by rw [hB];exact g1) (by rw [hB];exact g2) (by rw [hB];exact g3);rw [hB,Nat.mul_one] at hs;obtain ⟨o1,o2,o3,o4,o5,o6⟩:=hs;have p1:B+1 <= pw 200:=Nat.le_trans (Nat.add_le_add hbd (Zbt d)) (Nat.le_trans (Zig d) (Zbk (by omega)));have p2:B < pw 200:=p1;refine ⟨Zfs p2 _ _ _ _ _ o1,Zg0 p2 p2 _ _ _ _ o2,⟨fun i t hi ht=>?_,fun i j=>?_⟩,o3,o4,o5,fun hr=>?_⟩
 ·rw [Zon h];exact Nat.lt_of_lt_of_le Zem (Zbk (by decide))
 ·exact Nat.lt_of_le_of_lt (h i j).num (Zb0 (by omega))
 ·obtain ⟨q1,X,q2,q3,q4,-⟩:=o6 hr
  exact ⟨q1,X,q2,q3,q4⟩
section
variable {rs:List RI} {rr ws:List Int} {n m:Nat}
theorem Zqe (hn:n <= 200) (hm:m <= 12) (hE:Zb2 rs rr ws=0):∃ (full:Bool) (X:Nat->Nat->Rat),
    okZ (pw 200) (m+1) m 0 0 (Zt (Zbi rs rr ws n m)) 1/\okR (pw 200) (pw 200) (m+1) m 0 0 (Zbi rs rr ws n m)/\Zgl (Zbi rs rr ws n m) m (m+1) /\
    (Zae m 0 0 (Zt (Zbi rs rr ws n m)) false 1).2.1=(Zak m 0 0 (Zbi rs rr ws n m) false).2.1/\(Zak m 0 0 (Zbi rs rr ws n m) false).2.1 <= m /\
    full=decide ((Zak m 0 0 (Zbi rs rr ws n m) false).2.1=m) /\
    (full=true ↔ Z1 m (Za0 rs ws n) ≠ 0) /\
    (full=true->Zfc (Zn (Zak m 0 0 (Zbi rs rr ws n m) false).1) X m (m+1)/\Zfc (fun i j=>(Zaf (Zae m 0 0 (Zt (Zbi rs rr ws n m)) false 1).1 i j:Rat)) X m (m+1) /\
     Zey rs rr ws (fun j=>X j m) n m/\LeastP rs rr ws (fun j=>X j m) n m/\∃ D,0 < D/\D <= pw (5 * m)/\∀ k,k < m->CD D (pw (5 * m)) (X k m)):=by
 obtain ⟨b1,b2,b3⟩:=Zhw hE;obtain ⟨o1,o2,o3,o4,o5,o6,o7⟩:=Zoz (b:=4) (n:=m) (m:=m+1) (R:=Zbi rs rr ws n m) (fun i j=>Zt6 hn hE i j) Znu (by omega) (fun i hi=>Zu8 hi) (by omega) (by omega) (by omega)
 have hdet:Z1 m (Zn (Zbi rs rr ws n m))=Z1 m (Za0 rs ws n):=Zau fun i j hi hj=>by rw [Zf2 hi,if_pos hj]
 by_cases hr:(Zak m 0 0 (Zbi rs rr ws n m) false).2.1=m
 ·obtain ⟨x1,X,x2,x3,x4⟩:=o7 hr
  have hN:Zey rs rr ws (fun j=>X j m) n m:=fun i hi=>by
   have h6:=x4 i m hi (Nat.le_refl _) (by omega);rw [Zf2 hi,if_neg (Nat.lt_irrefl _),if_pos rfl] at h6;rw [<- h6]
   exact Zm fun j hj=>by rw [Zf2 hi,if_pos hj];rfl
  obtain ⟨D,d1,d2,d3⟩:=Zw5 (B:=pw 4) (n:=m) (Q:=Za0 rs ws n) (x:=fun j=>X j m) (y:=fun i=>((Za4 ws (Zv rs i) (Z5 rr) n:Int):Rat))
   (fun a b ha hb=>⟨_,rfl,Zew hn fun r _=>⟨b3 r,b1 r a,b1 r b⟩⟩) (fun a ha=>⟨_,rfl,Zew hn fun r _=>⟨b3 r,b1 r a,b2 r⟩⟩) hN (by rw [<- hdet];exact x1)
  have hbd:=Zgb (b:=4) m (by omega);have d4:D <= pw (5 * m):=Nat.le_trans d2 hbd
  have d5:∀ k,k < m->CD D (pw (5 * m)) (X k m):=fun k hk=>(d3 k hk).mono hbd
  refine ⟨true,X,o1,o2,o3,o4,o5,(decide_eq_true hr).symm,⟨fun _=>by rw [<- hdet];exact x1,fun _=>rfl⟩,fun _=>⟨x2,x3,hN,?_,D,d1,d4,d5⟩⟩;exact Zjy hn (by omega) d1 d4 (Nat.le_refl _) (by omega) d5 (fun r k _ _=>b1 r k) (fun r _=>b2 r) (fun r _=>b3 r)
 ·have hr':(Zak m 0 0 (Zbi rs rr ws n m) false).2.1 < m:=by omega
  exact ⟨false,fun _ _=>0,o1,o2,o3,o4,o5,(decide_eq_false hr).symm,⟨fun h=>(by cases h),fun h=>absurd (by rw [<- hdet];exact o6 hr') h⟩,fun h=>(by cases h)⟩
end
def LeastD (w:World) (ds:List DF) (d:DF) (E:Int) (e:Ending) (w':World):Prop:=
 ∃ A0 n0 c0 A n c B m d1,e=.returned (.tuple #[.slice A0 n0 c0,.agg #[.bool d.na,.slice A n c,.bool d.nb,.slice B m d1],.int .i64 E])/\Below w.heap.size w w'/\XL w' A0 n0 c0 ds/\Lim w' A n c d.la/\Lim w' B m d1 d.lb
theorem LeastD.of_bad {w w':World} {e:Ending} {E:Int} (h:e=.returned (.tuple #[.slice none 0 0,.agg #[.bool false,.slice none 0 0,.bool false,.slice none 0 0],.int .i64 E])/\Below w.heap.size w w'):LeastD w [] dfZ E e w':=
 ⟨_,_,_,_,_,_,_,_,_,h.1,h.2,XL.nil _,Lim.nil _ _ _ (Nat.zero_le _),Lim.nil _ _ _ (Nat.zero_le _)⟩
theorem LeastD.of_full {full:Bool} {xs:List Rat} {q:Rat} {w w':World} {e:Ending} (hf:full=true) (h:Zrd full xs q w e w'):LeastD w (xs.map dfQ) (dfQ q) 0 e w':=by
 rcases h with ⟨h1,-⟩ | ⟨-,A0,n0,c0,na,A,n,c,nb,B,m,d,e1,hb,hO,hfr⟩
 ·rw [hf] at h1;cases h1
 ·have hx:=hO.xl
  have h1:=hfr.1.1;have h2:=hfr.2.1;have h3:=hfr.2.2.2;rw [Int.natAbs_natCast] at h3
  have h4:nb=false:=by rw [h2];exact decide_eq_false (by omega)
  subst h1 h4;exact ⟨_,_,_,_,_,_,_,_,_,e1,hb,hx,hfr.1.2.2,h3⟩
theorem LeastD.of_short {full:Bool} {xs:List Rat} {q:Rat} {w w':World} {e:Ending} (hf:full=false) (h:Zrd full xs q w e w'):LeastD w [] dfZ 22 e w':=by
 rcases h with ⟨-,h1⟩ | ⟨h1,-⟩
 ·exact LeastD.of_bad h1
 ·rw [hf] at h1;cases h1
theorem Zoj {w:World} {A:Option Addr} {n c:Nat} {rs:List RI} {rr ws:List Int} (h:MIL w A n c rs) (hE:Zb2 rs rr ws=0):0 < n/\n <= 200/\0 < n0I rs/\n0I rs <= 12/\rr.length=n/\ws.length=n/\∀ r ∈ rs,r.n=n0I rs:=by
 obtain ⟨f1,f2,f3,f4,f5,f6,f7,f8⟩:=Zbq hE;have hl:=h.1
 have hn0:0 < n:=by
  rcases Nat.eq_zero_or_pos n with h0 | h0
  ·exfalso
   have:rs=[]:=List.eq_nil_of_length_eq_zero (by omega);subst this;exact f3 rfl
  ·exact h0
 have hm12:n0I rs <= 12:=by
  obtain ⟨_,_,r0,_,hr0,_⟩:=h.at_ (i:=0) hn0;have h1:=List.mem_of_getElem? hr0;rw [<- (f8 r0 h1).1];exact f2 r0 h1
 exact ⟨hn0,by omega,by omega,hm12,by omega,by omega,fun r hr=>(f8 r hr).1⟩
theorem det_one (E0:Int) (Q:List (List Rat)) (n:Nat) (hq:E0=0->SmallQ Q n):∃ d:DF,(E0=0->d=dfQ (Z1 n (Zn Q)))/\∀ (w:World) (A:Option Addr) (c:Nat) (rs:List RX),MXL w A n c rs->sqE rs=E0->qM rs=Q ->
    Calls Tryz.prog 24 #[.slice A n c] w (FracD w d E0):=by
 by_cases hE:E0=0
 ·subst hE
  obtain ⟨g1,g2,g3⟩:=(hq rfl).det;refine ⟨dfQ (Z1 n (Zn Q)),fun _=>rfl,fun w A c rs h hs hqm=>?_⟩;rw [<- g3];subst hqm
  exact (Ztl A n c rs w h hs g1).mono fun e w' he=>FracD.of_fr he
 ·refine ⟨dfZ,fun h=>absurd h hE,fun w A c rs h hs hqm=>(Zvx A n c rs w h E0 hs hE).mono fun e w' he=>?_⟩
  exact ⟨_,_,_,_,_,_,he.1,he.2,Lim.nil _ _ _ (Nat.zero_le _),Lim.nil _ _ _ (Nat.zero_le _)⟩
theorem Zur (E0:Int) (V:Bool) (Q:List (List Rat)) (b:List Rat) (n nb:Nat) (hq:E0=0->SmallQ Q n) (hb:V=true->∀ i:Nat,(b[i]?.getD 0).num.natAbs <= pw 2/\(b[i]?.getD 0).den <= pw 2):∃ (E:Int) (ds:List DF),
    (E0=0->V=true->nb=n->(Z1 n (Zn Q)=0/\E=18/\ds=[]) \/ (Z1 n (Zn Q) ≠ 0/\E=0/\∃ X:Nat->Rat,ds=((List.range n).map X).map dfQ/\(∀ i,i < n->sumQ n (fun j=>Zn Q i j * X j)=b[i]?.getD 0)/\∀ i,(X i).num.natAbs <= pw ((2 * (n+1)+2+1) * n)/\(X i).den <= pw ((2 * (n+1)+2+1) * n))) /\
    ∀ (w:World) (A B:Option Addr) (c cb:Nat) (rs:List RX) (es:List FX),MXL w A n c rs->FXL w B nb cb es->sqE rs=E0->qM rs=Q->Zcn es=V->es.map FX.q=b ->
    Calls Tryz.prog 26 #[.slice A n c,.slice B nb cb] w (RowD w ds E):=by
 have none_:∀ (E:Int) (w w':World) (e:Ending),(e=.returned (.tuple #[.slice none 0 0,.int .i64 E])/\Below w.heap.size w w')->RowD w [] E e w':=fun E w w' e h=>⟨_,_,_,h.1,h.2,XL.nil _⟩
 by_cases hE:E0=0
 ·subst hE
  by_cases hv:nb ≠ n \/ V=false
  ·refine ⟨8,[],fun _ h1 h2=>?_,fun w A B c cb rs es h hbx hs hqm hvv _=>?_⟩
   ·rcases hv with hv | hv
    ·exact absurd h2 hv
    ·rw [hv] at h1;cases h1
   ·rw [<- hvv] at hv
    exact (Zp7 A B n c nb cb rs es w h hbx hs hv).mono fun e w' he=>none_ _ _ _ _ he
  ·obtain ⟨rfl,rfl⟩:nb=n/\V=true:=⟨Classical.byContradiction fun h=>hv (.inl h),by cases V with
     | true=>rfl
     | false=>exact absurd (.inr rfl) hv⟩
   have hS:=hq rfl;have h5:=hS.2.1;obtain ⟨o1,o2,o3,o4,o5,o6,o7⟩:=hS.solveB (hb rfl)
   have hdet:Z1 nb (Zn (wideB Q b nb nb))=Z1 nb (Zn Q):=Zau fun i j hi hj=>by rw [Zfu hS.2.2.2.1 hS.2.2.1,if_pos hi,if_pos hj]
   by_cases hr:(Zak nb 0 0 (wideB Q b nb nb) false).2.1=nb
   ·obtain ⟨x1,X,x2,x3,x4,x5⟩:=o7 hr
    refine ⟨0,((List.range nb).map fun j=>X j nb).map dfQ,fun _ _ _=>.inr ⟨by rw [<- hdet];exact x1,rfl,fun j=>X j nb,rfl,fun i hi=>?_,fun i=>x5 i nb⟩,fun w A B c cb rs es h hbx hs hqm hvv hbq=>?_⟩
    ·have h6:=x4 i nb hi (Nat.le_refl _) (by omega)
     rw [Zfu hS.2.2.2.1 hS.2.2.1,if_pos hi,if_neg (Nat.lt_irrefl _),if_pos rfl] at h6;rw [<- h6]
     exact Zm fun j hj=>by rw [Zfu hS.2.2.2.1 hS.2.2.1,if_pos hi,if_pos hj]
    ·subst hqm hbq
     refine (Zt5 A B nb c cb rs es w h hbx hs hvv (by omega) o1 o3 (o4.trans hr) X x3).mono fun e w' he=>?_
     ·obtain ⟨v,rfl,hbw,hO⟩:=he
      obtain ⟨A1,n1,c1,rfl,hx⟩:=hO.xl;exact ⟨_,_,_,rfl,hbw,hx⟩
   ·have hr':(Zak nb 0 0 (wideB Q b nb nb) false).2.1 < nb:=by omega
    refine ⟨18,[],fun _ _ _=>.inl ⟨by rw [<- hdet];exact o6 hr',rfl,rfl⟩,fun w A B c cb rs es h hbx hs hqm hvv hbq=>?_⟩;subst hqm hbq
    exact (Zvf A B nb c cb rs es w h hbx hs hvv (by omega) o1 o3 (by rw [o4];exact hr')).mono fun e w' he=>none_ _ _ _ _ he
 ·refine ⟨E0,[],fun h=>absurd h hE,fun w A B c cb rs es h hbx hs hqm hvv _=>?_⟩
  exact (Zq7 A B n c nb cb rs es w h hbx E0 hs hE).mono fun e w' he=>none_ _ _ _ _ he
theorem Znq (rs:List RI) (rr ws:List Int):∃ (E:Int) (ds:List DF) (d:DF),
    (Zb2 rs rr ws ≠ 0->E=Zb2 rs rr ws) /\
    (Zb2 rs rr ws=0->(Z1 (n0I rs) (Za0 rs ws rs.length)=0/\E=22/\ds=[]) \/ (Z1 (n0I rs) (Za0 rs ws rs.length) ≠ 0/\E=0/\∃ x:Nat->Rat,ds=((List.range (n0I rs)).map x).map dfQ/\d=dfQ (Zby rs rr ws x (n0I rs) rs.length)/\Zey rs rr ws x rs.length (n0I rs)/\LeastP rs rr ws x rs.length (n0I rs) /\
     ∃ D,0 < D/\D <= pw (5 * n0I rs)/\∀ k,k < n0I rs->CD D (pw (5 * n0I rs)) (x k))) /\
    ∀ (w:World) (A B C:Option Addr) (n c m0 d0 k e0:Nat),MIL w A n c rs->LimI w B m0 d0 rr->LimI w C k e0 ws ->
    Calls Tryz.prog 18 #[.slice A n c,.slice B m0 d0,.slice C k e0] w (LeastD w ds d E):=by
 by_cases hE:Zb2 rs rr ws=0
 ·by_cases hsz:rs.length <= 200/\n0I rs <= 12
  ·obtain ⟨full,X,a1,a2,a3,a4,a5,a6,a7,a8⟩:=Zqe (n:=rs.length) (m:=n0I rs) hsz.1 hsz.2 hE
   cases full with
   | true =>
    obtain ⟨x1,x2,x3,x4,x5⟩:=a8 rfl;refine ⟨0,((List.range (n0I rs)).map fun j=>X j (n0I rs)).map dfQ,dfQ (Zby rs rr ws (fun j=>X j (n0I rs)) (n0I rs) rs.length),fun h=>absurd hE h,fun _=>.inr ⟨a7.1 rfl,rfl,fun j=>X j (n0I rs),rfl,rfl,x3,x4,x5⟩,fun w A B C n c m0 d0 k e0 h hr hw=>?_⟩;obtain ⟨p1,p2,p3,p4,p5,p6,p7⟩:=Zoj h hE;obtain rfl:rs.length=n:=h.1
    obtain rfl:m0=rs.length:=by rw [<- hr.1,p5]
    obtain rfl:k=rs.length:=by rw [<- hw.1,p6]
    exact (Zmf A B C _ c d0 e0 _ rs rr ws w h hr hw hE rfl p1 p3 p4 a1 a3 (by rw [a4];exact a5) X (fun _=>x2) true (by rw [a4];exact a6) (fun _=>x4)).mono fun e w' he=>LeastD.of_full rfl he
   | false =>
    refine ⟨22,[],dfZ,fun h=>absurd hE h,fun _=>.inl ⟨Classical.byContradiction fun h=>(by have:=a7.2 h;cases this),rfl,rfl⟩,fun w A B C n c m0 d0 k e0 h hr hw=>?_⟩;obtain ⟨p1,p2,p3,p4,p5,p6,p7⟩:=Zoj h hE;obtain rfl:rs.length=n:=h.1
    obtain rfl:m0=rs.length:=by rw [<- hr.1,p5]
    obtain rfl:k=rs.length:=by rw [<- hw.1,p6]
    have hne:(Zak (n0I rs) 0 0 (Zbi rs rr ws rs.length (n0I rs)) false).2.1 ≠ n0I rs:=by simpa using a6
    exact (Zmf A B C _ c d0 e0 _ rs rr ws w h hr hw hE rfl p1 p3 p4 a1 a3 (by rw [a4];exact a5) X (fun h=>absurd (a4.symm.trans h) hne) false (by rw [a4];exact a6) (fun h=>(by cases h))).mono fun e w' he=>LeastD.of_short rfl he
  ·refine ⟨0,[],dfZ,fun h=>absurd hE h,fun _=>?_,fun w A B C n c m0 d0 k e0 h hr hw=>?_⟩
   ·exfalso
    obtain ⟨f1,f2,f3,f4,f5,f6,f7,f8⟩:=Zbq hE;refine hsz ⟨f1,?_⟩
    cases hrs:rs with
    | nil=>rw [hrs] at f3;exact absurd rfl f3
    | cons r t =>
     have h1:r ∈ rs:=by rw [hrs];exact List.mem_cons_self
     rw [<- hrs,<- (f8 r h1).1];exact f2 r h1
   ·exfalso
    obtain ⟨p1,p2,p3,p4,p5,p6,p7⟩:=Zoj h hE;have:=h.1;exact hsz ⟨by omega,p4⟩
 ·refine ⟨Zb2 rs rr ws,[],dfZ,fun _=>rfl,fun h=>absurd h hE,fun w A B C n c m0 d0 k e0 h hr hw=>?_⟩
  exact (Zq6 A B C n c m0 d0 k e0 rs rr ws w h hr hw _ rfl hE).mono fun e w' he=>LeastD.of_bad he
end Go.Proofs.YtigdclhagmnopaaGreat
