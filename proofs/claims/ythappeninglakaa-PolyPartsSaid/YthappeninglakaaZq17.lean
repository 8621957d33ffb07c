/- The reference of layer 4: Add, Sub. The reference of layer -/
import Derived.Test.YthappeninglakaaZq07
set_option maxRecDepth 100000
set_option maxHeartbeats 2000000
set_option linter.unusedSimpArgs false
set_option linter.unusedVariables false
namespace Go.Proofs.Ythappeninglakaa
open Go.RowKit
attribute [local go_sem] Zj
theorem Zre {w : World} {A : Option Addr} {n c : Nat} {ps : List WE} (hp : WL w A n c ps) (kp : pOk ps = true) : ∀ i : Nat,((ps.map WE.num)[i]?.getD 0).natAbs < pw 40:=fun i=>by
 obtain ⟨_,hpk⟩:=Zbw kp;rw [List.getElem?_map]
 rcases Option.eq_none_or_eq_some ps[i]? with h | ⟨e,h⟩
 ·rw [h];exact Za7 40
 ·rw [h];exact WE.small (hp.2.2.2.2 e (List.mem_of_getElem? h)) (hpk e (List.mem_of_getElem? h)).1 (hpk e (List.mem_of_getElem? h)).2
theorem Zmw (A : Option Addr) (n c : Nat) (ps : List WE) (w : World) (hp : WL w A n c ps) (kp : pOk ps = true) :
    Calls Try.prog 42 #[.slice A n c] w (Zi8 w (Zaj (ps.map WE.num))):=by
 obtain ⟨iw,hi,hz0,hz1,hz2⟩:=info_parts Zfm;have hnc:=hp.2.1;have hcm:=hp.2.2.1;unfold maxLen at hcm;obtain ⟨hn9,hpk⟩:=Zbw kp;have hxb:=Zb (Zre hp kp);have hpl:=Zb hp.len;rw [hp.len] at hn9;replace hpk:=Zb hpk;clear kp;obtain ⟨xs,hxs⟩ : ∃ xs,ps.map WE.num = xs:=⟨_,rfl⟩;rw [hxs] at hxb ⊢
 have hxl : Hid (xs.length = n):=by unfold Hid;rw [<- hxs,List.length_map];exact hpl.out
 replace hxs:=Zb hxs;go_enter Try.func42,Try.ntmps42;go_wp2_with fail
 go_loopw [4,3] (fun iv ov wr=>∃ i : Nat,0 < i /\ i <= max n 1 /\ iv = .int .i64 i /\ OwnP 26 wr w.heap.size ov ((List.range (i - 1)).map (fun j=>xs[j + 1]?.getD 0 * ((j + 1 : Nat) : Int))) /\ Below w.heap.size w wr) (fun iv _ _=>max n 1 - (intOf iv).toNat)
 case atStart=>exact ⟨1,Nat.one_pos,by omega,rfl,OwnP.nil _ _ _,Below.refl _ _⟩
 case round =>
  obtain ⟨i,hi0,hik,rfl,hown,hBp⟩:=hrel;have hsz:=hBp.size
  by_cases hin : i < n
  ·obtain ⟨b1,o1,e1,rfl,he1,hc1,hc1',hL1⟩:=(hp.below hBp).at_ hin
   have hw1:=WE.wd hL1 (hpk.out e1 (List.mem_of_getElem? he1)).1;have hx1:=hp.num_at he1;rw [hxs.out] at hx1;have hlt1:=Zn hc1;obtain ⟨neg1,A1,n1,c1,l1⟩:=e1;dsimp only at hc1 hc1' hL1 hw1 hx1
   generalize WE.num ⟨neg1,A1,n1,c1,l1⟩ = x1 at *
   replace hx1:=Zb hx1;replace he1:=Zb he1;clear hL1
   have hM : (x1 * (i : Int)).natAbs < pw 4096:=by
    have h1:=hxb.out i;rw [hx1.out] at h1
    have h2 : ((i : Int)).natAbs < pw 40:=by have:=Zdn (show 1 <= 40 by omega);rw [show pw 1 = 4294967296 by rfl] at this;omega
    exact Znl (i:=0) (by omega) (by rw [Nat.zero_add,Nat.one_mul];exact Zgz h1 h2)
   go_wp2_with fail;have hw4 : Wd wr.drew neg1 A1 n1 c1 x1:=hw1;have g2' : wr.drew.cell? ⟨b1,o1 + i * 2,none⟩ = some (.bool neg1):=hc1;have g3' : wr.drew.cell? ⟨b1,o1 + i * 2 + 1,none⟩ = some (.slice A1 n1 c1):=hc1';have hne:=World.new_ne wr _ hc1;have hne':=World.new_ne wr _ hc1'
   go_region_held3 (fun w'=>w'.cell? ⟨b1,o1 + i * 2,none⟩ = some (.bool neg1) /\ w'.cell? ⟨b1,o1 + i * 2 + 1,none⟩ = some (.slice A1 n1 c1))
       (((try dsimp only);(repeat' apply And.intro);all_goals (first | go_keep | (simp [*,go_sem];done))))
       (first
        | (go_at_call 64;refine (Zdw _ wr.drew (by omega) (by omega)).mono ?_;rintro e w5 ⟨hb5,neg5,A5,n5,c5,rfl,hW5⟩;have k0:=Za hb5 g2';have k1:=Za hb5 g3';have hw5:=hw4.below hb5;have hB5 : Below wr.heap.size wr w5:=Zm hb5;have hB5':=hB5.size)
        | (go_at_call 64;refine (Zdw _ (wr.alloc (.cells #[.bool false,.slice none 0 0] 26)).drew (by omega) (by omega)).mono ?_;rintro e w5 ⟨hb5,neg5,A5,n5,c5,rfl,hW5⟩;have k0:=Za hb5 ((World.cell?_alloc_lt wr _ ⟨b1,o1 + i * 2,none⟩ hlt1).trans hc1);have k1:=Za hb5 ((World.cell?_alloc_lt wr _ ⟨b1,o1 + i * 2 + 1,none⟩ hlt1).trans hc1');have hw5:=Wd.below (w:=(wr.alloc (.cells #[.bool false,.slice none 0 0] 26)).drew) (hw1.alloc _) hb5;have hB5 : Below wr.heap.size wr w5:=((Below.refl wr.heap.size wr).alloc (Nat.le_refl _) (.cells #[.bool false,.slice none 0 0] 26)).trans ((Zm hb5).mono (by simp));have zb5:=Zd hb5 (Blk.new wr 26 #[.bool false,.slice none 0 0]))
        | (go_at_call 49;refine (Zdf _ _ _ _ _ _ _ _ x1 (i : Int) w5 (by exact hw5) (by exact hW5)).mono ?_;rintro e w6 ⟨hb6,neg6,A6,n6,c6,code6,rfl,hR6⟩;have hB6 : Below wr.heap.size wr w6:=hB5.trans (hb6.mono hB5.size);have k2:=Za hb6 k0;have k3:=Za hb6 k1;have zb6:=Zd hb6 zb5;have z0:=zb6.cell 0;have z1:=zb6.cell 1;have z2:=zb6.frozen 0;have z3:=zb6.frozen 1)
        | (go_at_call 49;refine (Zdf _ _ _ _ _ _ _ _ x1 (i : Int) w5 (by exact hw5) (by exact hW5)).mono ?_;rintro e w6 ⟨hb6,neg6,A6,n6,c6,code6,rfl,hR6⟩;have hB6 : Below wr.heap.size wr w6:=hB5.trans (hb6.mono hB5.size);have k2:=Za hb6 k0;have k3:=Za hb6 k1)
        | (go_at_call 49;refine (Zdf _ _ _ _ _ _ _ _ x1 (i : Int) (w5.alloc (.cells #[.bool false,.slice none 0 0] 26)) (by exact hw5.alloc _) (by exact hW5.alloc _)).mono ?_;rintro e w6 ⟨hb6,neg6,A6,n6,c6,code6,rfl,hR6⟩;have hB6 : Below wr.heap.size wr w6:=(hB5.alloc hB5.size _).trans (hb6.mono (Nat.le_trans hB5.size (by simp)));have k2:=Za hb6 ((World.cell?_alloc_lt w5 _ _ (Zn k0)).trans k0);have k3:=Za hb6 ((World.cell?_alloc_lt w5 _ _ (Zn k1)).trans k1);have zb6:=Zd hb6 (Blk.new w5 26 #[.bool false,.slice none 0 0]);have z0:=zb6.cell 0;have z1:=zb6.cell 1;have z2:=zb6.frozen 0;have z3:=zb6.frozen 1))
   all_goals (
       have hW6:=hR6.small hM;clear hR6
       first
        | (obtain ⟨W,hWe,hDB,hDK,hDW⟩:=Zoc 26 hB6 hB6.size hW6;rw [hWe])
        | (obtain ⟨W,hWe,hDB,hDK,hDW⟩:=Zol hB6 (by first | exact Nat.le_refl _ | exact hB5.size) zb6 hW6;rw [hWe])
       clear hWe;have hownW:=hown.kept hDB;have hBW:=hBp.trans (hDB.mono hBp.size);have y0' : W.cell? ⟨_,0,none⟩ = some (.bool neg6):=hDK.out.cell 0;have y1' : W.cell? ⟨_,1,none⟩ = some (.slice A6 n6 c6):=hDK.out.cell 1;clear hown hBp hB6 hb6 k0 k1 k2 k3 hW5 hw5 hW6;go_wp2_with (at_builtin;refine Zaa _ rfl (.tmp 23) (.tmp 25) 22 rfl w.heap.size 26 iw Try.underlying22 hi hz0 hz1 hz2 _ _ rfl (by exact hownW.alloc _) _ _ 1 1 [⟨neg6,A6,n6,c6,digits (x1 * (i : Int)).natAbs⟩] rfl (Zdu _ _ _ _ _ _ _) rfl (List.forall_mem_singleton.2 ⟨hDW.2.2.alloc _,hDW.ok⟩) (by rw [List.length_map,List.length_range];omega) (by have:=hBW.size;simp;omega) ?_;intro v7 w7 hown7 hg7 hk7);have hB7:=(hBW.alloc hBW.size _).grown hg7 (by have:=hBW.size;simp;omega) hownW.row_ge;have hown8:=hown7.snoc hDW;rw [<- hx1.out,Zlk xs hi0] at hown8
       go_roundw
       case rel=>exact ⟨i + 1,by omega,by omega,by go_num,hown8,hB7⟩
       case measure=>simp [intOf];omega)
  ·have hO : (List.range (i - 1)).map (fun j=>xs[j + 1]?.getD 0 * ((j + 1 : Nat) : Int)) = Zaj xs:=by unfold Zaj;rw [hxl.out,show i - 1 = n - 1 by omega]
   rw [hO] at hown;clear hO
   have d1 : decide ((i : Int) < (n : Int)) = false:=by simp;omega
   obtain ⟨A9,c9,rfl,hP9⟩:=hown.poly;go_wp2_with fail;go_returns;exact ⟨_,_,_,rfl,hP9,hBp⟩
theorem Zmq (xs : List Int) : (Zf xs).length <= xs.length:=by
 induction xs with
 | nil=>simp [Zf]
 | cons x l ih =>
  rw [Zf]
  cases h : Zf l with
  | nil=>dsimp only;split <;> simp
  | cons y m=>rw [h] at ih;simpa using ih
theorem Zss {w w' : World} {e f : WE} (h : Lim w e.A e.n e.c e.l) (h' : Lim w' f.A f.n f.c f.l) (k : e.ok = true) (k' : f.ok = true) (hz : e.num = f.num) : Zhq e.neg f.neg e.l f.l = true:=by
 obtain ⟨a1,a2,a3⟩:=(Zgb h.lt).1 k;obtain ⟨b1,b2,b3⟩:=(Zgb h'.lt).1 k';have hz' : sg e.neg (val e.l) = sg f.neg (val f.l):=hz;rw [hz'] at a1 a3;have hn : e.neg = f.neg:=a1.trans b1.symm;have hl : e.l = f.l:=a3.trans b3.symm;unfold Zhq;rw [hn,hl,Zgf]
 simp
theorem Zl3 (A B : Option Addr) (n c m d : Nat) (xs : List Int) (w : World) (h : PolyL w A n c xs) (h' : PolyL w B m d xs) :
    Calls Try.prog 10 #[.slice A n c,.slice B m d] w fun e w'=>e = .returned (.bool true) /\ Below w.heap.size w w':=by
 obtain rfl : n = m:=by rw [<- h.len,<- h'.len]
 obtain ⟨es,he,hes,heo⟩:=h;obtain ⟨fs,hf,hfs,hfo⟩:=h';have hnc:=he.2.1;have hcm:=he.2.2.1;have hmd:=hf.2.1;have hdm:=hf.2.2.1;unfold maxLen at hcm hdm
 have hnn : ((n : Int) == (n : Int)) = true:=by simp
 replace hes:=Zb hes;replace hfs:=Zb hfs;replace heo:=Zb heo;replace hfo:=Zb hfo;go_enter Try.func10,Try.ntmps10;go_wp2_with fail
 go_loopw [5] (fun iv wr=>∃ i : Nat,i <= n /\ iv = .int .i64 i /\ Below w.heap.size w wr) (fun iv _=>n - (intOf iv).toNat)
 case atStart=>exact ⟨0,Nat.zero_le _,rfl,Below.refl _ _⟩
 case round =>
  obtain ⟨i,hik,rfl,hB⟩:=hrel
  by_cases hin : i < n
  ·obtain ⟨b1,o1,e1,rfl,he1,hc1,hc1',hL1⟩:=(he.below hB).at_ hin
   obtain ⟨b2,o2,e2,rfl,he2,hc2,hc2',hL2⟩:=(hf.below hB).at_ hin
   have hs:=Zss hL1 hL2 (heo.out e1 (List.mem_of_getElem? he1)) (hfo.out e2 (List.mem_of_getElem? he2)) (by
    have h1 : (es.map WE.num)[i]?.getD 0 = e1.num:=by rw [List.getElem?_map,he1];rfl
    have h2 : (fs.map WE.num)[i]?.getD 0 = e2.num:=by rw [List.getElem?_map,he2];rfl
    rw [hes.out] at h1;rw [hfs.out] at h2
    rw [<- h1,<- h2])
   obtain ⟨neg1,A1,n1,c1,l1⟩:=e1;obtain ⟨neg2,A2,n2,c2,l2⟩:=e2;dsimp only at hc1 hc1' hL1 hc2 hc2' hL2 hs;replace hs:=Zb hs;replace he1:=Zb he1;replace he2:=Zb he2;have hlt1:=Zn hc1;have hlt2:=Zn hc2;go_wp2_with fail;have hL1' : Lim wr.drew A1 n1 c1 l1:=hL1;have hL2' : Lim wr.drew A2 n2 c2 l2:=hL2;have g0 : wr.drew.cell? ⟨b1,o1 + i * 2,none⟩ = some (.bool neg1):=hc1;have g1 : wr.drew.cell? ⟨b1,o1 + i * 2 + 1,none⟩ = some (.slice A1 n1 c1):=hc1';have g2 : wr.drew.cell? ⟨b2,o2 + i * 2,none⟩ = some (.bool neg2):=hc2;have g3 : wr.drew.cell? ⟨b2,o2 + i * 2 + 1,none⟩ = some (.slice A2 n2 c2):=hc2'
   go_region_held3 (fun w'=>w'.cell? ⟨b1,o1 + i * 2,none⟩ = some (.bool neg1) /\ w'.cell? ⟨b1,o1 + i * 2 + 1,none⟩ = some (.slice A1 n1 c1) /\ w'.cell? ⟨b2,o2 + i * 2,none⟩ = some (.bool neg2) /\ w'.cell? ⟨b2,o2 + i * 2 + 1,none⟩ = some (.slice A2 n2 c2))
       (((try dsimp only);(repeat' apply And.intro);all_goals (first | go_keep | (simp [*,go_sem];done))))
       (first
        | (go_at_call 22;refine (Zlh _ _ _ _ _ _ _ _ _ _ _ hL1' hL2').mono ?_;rintro e w5 ⟨he5,hb5⟩;rw [hs.out] at he5;subst he5;have k0:=Za hb5 g0;have k1:=Za hb5 g1;have k2:=Za hb5 g2;have k3:=Za hb5 g3;have hB5:=hB.trans ((Zm hb5).mono hB.size)))
   all_goals (
    go_wp2_with fail
    go_roundw
    case rel=>exact ⟨i + 1,by omega,by go_num,hB5⟩
    case measure=>simp [intOf];omega)
  ·obtain rfl : i = n:=by omega
   go_wp2_with fail;go_ret;exact ⟨rfl,hB⟩
end Go.Proofs.Ythappeninglakaa
