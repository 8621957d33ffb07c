/- Package wide: made, times, and what is built on them. -/
import Derived.Deep.RegionHeld3
import Derived.Deep.DeepFit
import Derived.Test.YtaioanjcjijckaaGreatZb01
set_option maxRecDepth 100000
set_option maxHeartbeats 1000000
set_option linter.unusedSimpArgs false
set_option linter.unusedVariables false
namespace Go.Proofs.YtaioanjcjijckaaGreat
open Go.RowKit
attribute [local go_sem] Zf
theorem Zt1 {w w':World} {A:Option Addr} {n c:Nat} {l:List Nat} {neg:Bool} (h:Lim w A n c l) (hb:Below w.heap.size w w') (hs:val l < pw 4096) :
    ResW w (sg neg (val l)) (.returned (.tuple #[.agg #[.bool (neg && decide (0 < (digits (val l)).length)),.slice A (digits (val l)).length c],.int .i64 0])) w':=
 ⟨hb,_,_,_,_,_,rfl,.inl ⟨by rw [Z6];exact hs,rfl,(Wd.made h neg hs).below hb⟩⟩
theorem Zbt (neg:Bool) (A:Option Addr) (n c:Nat) (l:List Nat) (w:World) (h:Lim w A n c l) :
    Calls Tryz.prog 155 #[.bool neg,.slice A n c] w (ResW w (sg neg (val l))):=by
 have hk:=h.canon.2;have hnc:=h.2.1;have hcm:=h.2.2.1;unfold maxLen at hcm
 have HO:Hid (∀ w',Below w.heap.size w w'->val l < pw 4096->ResW w (sg neg (val l)) (.returned (.tuple #[.agg #[.bool (neg && decide (0 < (digits (val l)).length)),.slice A (digits (val l)).length c],.int .i64 0])) w'):=
  fun w' hb hs=>Zt1 h hb hs
 have HB:Hid (∀ w',Below w.heap.size w w'->pw 4096 <= val l->ResW w (sg neg (val l)) (.returned (.tuple #[.agg #[.bool false,.slice none 0 0],.int .i64 16])) w'):=
  fun w' hb hs=>⟨hb,_,_,_,_,_,rfl,.inr ⟨by rw [Z6];exact hs,rfl,rfl,rfl,rfl,rfl⟩⟩
 have HI:=Za (Zo (val l) 4096);have HT:=Za (Ze3 A n c l)
 generalize hm:(digits (val l)).length=m at *
 clear hm
 by_cases h1:m <= 4096
 ·by_cases h2:0 < m
  ·have e:(neg && decide (0 < m))=neg:=by simp [h2]
   simp only [e] at HO;clear e
   have hd:decide (0 < m)=true:=by simpa using h2
   cases neg
   all_goals
    go_enter Tryz.func155,Tryz.ntmps155;go_wp2_with (go_at_call 149;refine (HT.out _ (h.alloc _)).mono ?_;rintro e w' ⟨rfl,rfl⟩);go_returns;exact HO.out _ ((Below.refl _ _).alloc (Nat.le_refl _) _) (HI.out.1 h1)
  ·obtain rfl:m=0:=by omega
   have e:(neg && decide (0 < 0))=false:=by simp
   simp only [e] at HO;clear e
   cases neg
   all_goals
    go_enter Tryz.func155,Tryz.ntmps155;go_wp2_with (go_at_call 149;refine (HT.out _ (h.alloc _)).mono ?_;rintro e w' ⟨rfl,rfl⟩);go_returns;exact HO.out _ ((Below.refl _ _).alloc (Nat.le_refl _) _) (HI.out.1 h1)
 ·have hp:pw 4096 <= val l:=by
    rcases Nat.lt_or_ge (val l) (pw 4096) with h' | h'
    ·exact absurd (HI.out.2 h') h1
    ·exact h'
  have HP:=Za hp;clear hp;go_enter Tryz.func155,Tryz.ntmps155;go_wp2_with (go_at_call 149;refine (HT.out _ (h.alloc _)).mono ?_;rintro e w' ⟨rfl,rfl⟩);go_returns;exact HB.out _ ((Below.refl _ _).alloc (Nat.le_refl _) _) HP.out
def Times1 (w:World) (a b:List Nat) (g i k carry:Nat) (wr:World):Prop:=
 ∃ out,Blk wr g 147 (Zt out)/\out.length=a.length+b.length/\Lt32 out/\(∀ j,i+b.length <= j->out[j]?.getD 0=0) /\
  val out+pw (i+k) * carry=val (a.take i) * val b+pw i * (a[i]?.getD 0 * val (b.take k))/\carry < 4294967296/\Below w.heap.size w wr
theorem Times1.start (w:World) (a b:List Nat):Times1 w a b w.heap.size 0 0 0 (w.alloc (.cells (Zt (List.replicate (a.length+b.length) 0)) 147)):=
 ⟨List.replicate _ 0,Blk.new _ _ _,by simp,Lt32.replicate _,fun j _=>Zdf _ _,by simp [Zdt,val],by omega,(Below.refl _ _).alloc (Nat.le_refl _) _⟩
theorem Times1.step {w wr:World} {a b out:List Nat} {i k carry s q:Nat} (hblk:Blk wr w.heap.size 147 (Zt out)) (hlen:out.length=a.length+b.length) (hlt:Lt32 out) (hz:∀ j,i+b.length <= j->out[j]?.getD 0=0)
    (hI:val out+pw (i+k) * carry=val (a.take i) * val b+pw i * (a[i]?.getD 0 * val (b.take k))) (hc:carry < 4294967296) (hB:Below w.heap.size w wr) (hi:i < a.length) (hk:k < b.length)
    (ha:Lt32 a) (hb:Lt32 b) (hs:s < 4294967296) (he:s+4294967296 * q=carry+a[i]?.getD 0 * b[k]?.getD 0+out[i+k]?.getD 0) :
    Times1 w a b w.heap.size i (k+1) q (wr.setCell ⟨w.heap.size,i+k,none⟩ (limb s)):=
 ⟨out.set (i+k) s,by rw [<- Zbq];exact hblk.set_ _ _,by rw [List.length_set];exact hlen,hlt.set _ hs,fun j hj=>by rw [getD_set_ne _ (by omega)];exact hz j (by omega),
  Zqa (by omega) hI he,Zuv (ha.get i) (hb.get k) (hlt.get _) hc he,hB.setCell (p:=⟨w.heap.size,i+k,none⟩) (Nat.le_refl _) _⟩
theorem Times1.row {w wr:World} {a b:List Nat} {i carry:Nat} (h:Times1 w a b w.heap.size i b.length carry wr) (hi:i < a.length) :
    Times1 w a b w.heap.size (i+1) 0 0 (wr.setCell ⟨w.heap.size,i+b.length,none⟩ (limb carry)):=by
 obtain ⟨out,hblk,hlen,hlt,hz,hI,hc,hB⟩:=h;rw [List.take_length] at hI;refine ⟨out.set (i+b.length) carry,by rw [<- Zbq];exact hblk.set_ _ _,by rw [List.length_set];exact hlen,hlt.set _ hc,fun j hj=>by rw [getD_set_ne _ (by omega)];exact hz j (by omega),?_,by omega,hB.setCell (p:=⟨w.heap.size,i+b.length,none⟩) (Nat.le_refl _) _⟩;have:=Zsq (by omega) (hz _ (Nat.le_refl _)) hI
 simp [val,this]
theorem Times1.stop {w wr:World} {a b:List Nat} {carry:Nat} (h:Times1 w a b w.heap.size a.length 0 carry wr) (hn:a.length+b.length <= maxLen) (h0:carry=0) :
    OutL w (fun l=>l.length=a.length+b.length/\val l=val a * val b) (.returned (.slice (some ⟨w.heap.size,0,none⟩) (a.length+b.length) (a.length+b.length))) wr:=by
 obtain ⟨out,hblk,hlen,hlt,-,hI,-,hB⟩:=h;have hL:=Lim.of_blk hblk hlt (by omega);rw [hlen] at hL;refine ⟨_,_,_,_,rfl,hL,⟨hlen,?_⟩,hB⟩;subst h0
 simpa [val] using hI
theorem Zr5 (A B:Option Addr) (n c m d:Nat) (a b:List Nat) (w:World) (ha:Lim w A n c a) (hb:Lim w B m d b) (hn:n <= 1000000000) (hm:m <= 1000000000) :
    Calls Tryz.prog 220 #[.slice A n c,.slice B m d] w (OutL w fun l=>l.length=n+m/\val l=val a * val b):=by
 obtain ⟨i0,hi,hz0,hz1,hz2⟩:=info_parts Zco;have hmk:=Zeo (P:=Tryz.prog) 25 147 Tryz.underlying25 hi hz0 hz1 hz2 ((n:Int)+m) (n+m) (by omega) (by omega);have hnc:=ha.2.1;have hmd:=hb.2.1;have hcm:=ha.2.2.1;have hdm:=hb.2.2.1;unfold maxLen at hcm hdm;have hal:=Za ha.len;have hbl:=Za hb.len;go_enter Tryz.func220,Tryz.ntmps220
 go_wp2
 go_loopw [19] (fun iv wr=>∃ i:Nat,i <= n/\iv=.int .i64 i/\Times1 w a b w.heap.size i 0 0 wr) (fun iv _=>n - (intOf iv).toNat)
 case atStart=>exact ⟨0,Nat.zero_le _,rfl,by have:=Times1.start w a b;rw [ha.len,hb.len] at this;exact this⟩
 case round =>
  obtain ⟨i,hi1,rfl,hP⟩:=hrel
  by_cases hlt1:i < n
  ·have hB0:Below w.heap.size w wr:=by obtain ⟨out,h1,h2,h3,h4,h5,h6,h7⟩:=hP;exact h7
   obtain ⟨ba,oa,rfl,hca⟩:=(ha.below hB0).at_ hlt1;have hxa:=ha.lt.get i;obtain ⟨wo,rfl⟩:∃ wo:World,wo=wr:=⟨_,rfl⟩
   go_wp2
   go_loopw [8,26] (fun cv kv wr=>∃ k carry:Nat,k <= m/\cv=.int .u64 carry/\kv=.int .i64 k/\Times1 w a b w.heap.size i k carry wr) (fun _ kv _=>m - (intOf kv).toNat)
   case atStart=>exact ⟨0,0,Nat.zero_le _,rfl,rfl,hP⟩
   case round =>
    obtain ⟨k,carry,hk,rfl,rfl,hP⟩:=hrel
    by_cases hlt2:k < m
    ·obtain ⟨out,hblk,hlen,hlt,hz,hI,hcy,hB⟩:=hP
     have hz:=Za hz;have hI:=Za hI;have hlen:=Za hlen;have hsz:=hblk.lt;obtain ⟨bb,ob,rfl,hcb⟩:=(hb.below hB).at_ hlt2;have hxb:=hb.lt.get k;have hcg:=hblk.cell (i+k);rw [Zai out (i+k) (by rw [hlen.out,hal.out,hbl.out];omega)] at hcg;have hxo:=hlt.get (i+k);have hfg:=hblk.frozen (i+k)
     go_wp2
     go_roundw
     case rel =>
      rw [Zre hcy hxa hxb hxo,Zkp,Zjp];exact ⟨k+1,_,by omega,rfl,by go_num,Times1.step hblk hlen.out hlt hz.out hI.out hcy hB (by rw [hal.out];exact hlt1) (by rw [hbl.out];exact hlt2) ha.lt hb.lt (Nat.mod_lt _ (by decide)) (by omega)⟩
     case measure=>simp [intOf];omega
    ·obtain rfl:k=m:=by omega
     have HR:Hid (Times1 w a b w.heap.size (i+1) 0 0 (wr.setCell ⟨w.heap.size,i+k,none⟩ (limb carry))):=by
      rw [<- hbl.out] at hP ⊢;exact hP.row (by rw [hal.out];exact hlt1)
     obtain ⟨out,hblk,hlen,hlt,hz,hI,hcy,hB⟩:=hP;have hsz:=hblk.lt;have hcg:=hblk.cell (i+k);rw [Zai out (i+k) (by rw [hlen,hal.out,hbl.out];omega)] at hcg;have hfg:=hblk.frozen (i+k);clear hz hI hlen hblk
     go_wp2
     go_roundw
     case rel=>exact ⟨i+1,by omega,by go_num,HR.out⟩
     case measure=>simp [intOf];omega
  ·obtain rfl:i=n:=by omega
   have HF:Hid (OutL w (fun l=>l.length=i+m/\val l=val a * val b) (.returned (.slice (some ⟨w.heap.size,0,none⟩) (i+m) (i+m))) wr):=by
    rw [<- hbl.out];have h1:=hal.out;subst h1;exact Times1.stop hP (by rw [hbl.out];unfold maxLen;omega) rfl
   clear hP
   go_wp2
   go_ret;exact HF.out
def Zft (b:Bool):Int:=if b then 0 else 8
theorem Zib (A:Option Addr) (n c:Nat) (es:List WE) (w:World) (h:WL w A n c es) :
    Calls Tryz.prog 147 #[.slice A n c] w fun e w'=>e=.returned (.int .i64 (Zft (es.all WE.ok)))/\Below w.heap.size w w':=by
 have hnc:=h.2.1;have hcm:=h.2.2.1;unfold maxLen at hcm;go_enter Tryz.func147,Tryz.ntmps147
 go_wp2
 go_loopw [8] (fun v wr=>∃ k:Nat,k <= n/\v=.int .i64 k/\Hid (∀ e ∈ es.take k,e.ok=true)/\Below w.heap.size w wr) (fun v _=>n - (intOf v).toNat)
 case atStart=>exact ⟨0,Nat.zero_le _,rfl,by unfold Hid;simp,Below.refl _ _⟩
 case round =>
  obtain ⟨k,hk,rfl,ho,hB⟩:=hrel
  by_cases hk0:k < n
  ·obtain ⟨b,o,e,rfl,he,hc1,hc2,hL⟩:=(h.below hB).at_ hk0
   have hle:=hL.2.1;have hem:=hL.2.2.1;unfold maxLen at hem;have HE:=Za he;have HLen:=Za hL.len
   have hgood:Hid (e.ok=true->∀ x ∈ es.take (k+1),x.ok=true):=fun hok x hx=>by
    rw [List.take_add_one,HE.out] at hx
    rcases List.mem_append.1 hx with hx | hx
    ·exact ho.out x hx
    ·simp at hx;subst hx;exact hok
   have hbad:Hid (e.ok=false->Ending.returned (.int .i64 8)=.returned (.int .i64 (Zft (es.all WE.ok)))):=fun hok=>by
    have:es.all WE.ok=false:=by
     rw [List.all_eq_false];exact ⟨e,List.mem_of_getElem? HE.out,by simp [hok]⟩
    rw [this];rfl
   obtain ⟨neg,A1,n1,c1,l1⟩:=e;dsimp only at hc1 hc2 hL hle hem HLen;clear he
   by_cases t1:n1 <= 4096
   ·by_cases t2:0 < n1
    ·obtain ⟨b1,o1,rfl,hx⟩:=hL.at_ (k:=n1 - 1) (by omega)
     have hb1:=Z0 hx
     by_cases t3:l1[n1 - 1]?.getD 0=0
     ·have hx3:(((l1[n1-1]?.getD 0:Nat):Int) == 0)=true:=by simp [t3]
      have H8:=Za (hbad.out (Zn2 (by rw [HLen.out];exact t2) (by rw [HLen.out];exact t3)));clear t3 hL
      go_wp2
      go_ret;exact ⟨H8.out,hB.alloc hB.size _⟩
     ·have hx3:(((l1[n1-1]?.getD 0:Nat):Int) == 0)=false:=by simpa using t3
      have HG:=Za (hgood.out (Ztr (by rw [HLen.out];exact t2) (by rw [HLen.out];exact t1) (by rw [HLen.out];exact t3)))
      have hd1:((n1:Int) == 0)=false:=by simp;omega
      clear t3 hL
      cases neg
      all_goals
       go_wp2
       go_roundw
       case rel=>exact ⟨k+1,by omega,by go_num,HG,hB.alloc hB.size _⟩
       case measure=>simp [intOf];omega
    ·obtain rfl:n1=0:=by omega
     cases neg
     ·have HG:=Za (hgood.out (by unfold WE.ok;rw [Zl7 HLen.out];rfl))
      clear hL
      go_wp2
      go_roundw
      case rel=>exact ⟨k+1,by omega,by go_num,HG,hB.alloc hB.size _⟩
      case measure=>simp [intOf];omega
     ·have H8:=Za (hbad.out (by unfold WE.ok;rw [Zl7 HLen.out];rfl))
      clear hL
      go_wp2
      go_ret;exact ⟨H8.out,hB.alloc hB.size _⟩
   ·have H8:=Za (hbad.out (Zqw (by rw [HLen.out];omega)))
    clear hL
    go_wp2
    go_ret;exact ⟨H8.out,hB.alloc hB.size _⟩
  ·obtain rfl:k=n:=by omega
   have HA:Hid (es.all WE.ok=true):=by
    unfold Hid;rw [List.all_eq_true];have:=ho.out;rw [List.take_of_length_le (by rw [h.len];exact Nat.le_refl _)] at this;exact this
   go_wp2
   go_ret;exact ⟨by rw [HA.out];rfl,hB⟩
theorem Zc0 {A:Option Addr} {n c:Nat} {es:List WE} {w:World} (h:WL w A n c es) (hk:es.all WE.ok=true) :
    Calls Tryz.prog 147 #[.slice A n c] w fun e w'=>e=.returned (.int .i64 0)/\Below w.heap.size w w':=
 (Zib A n c es w h).mono fun _ _ ⟨he,hb⟩=>⟨by rw [he,hk];rfl,hb⟩
theorem Zsg {A:Option Addr} {n c:Nat} {es:List WE} {w:World} (h:WL w A n c es) (hk:es.all WE.ok=false) :
    Calls Tryz.prog 147 #[.slice A n c] w fun e w'=>e=.returned (.int .i64 8)/\Below w.heap.size w w':=
 (Zib A n c es w h).mono fun _ _ ⟨he,hb⟩=>⟨by rw [he,hk];rfl,hb⟩
theorem Zlx (neg:Bool) (A:Option Addr) (n c:Nat) (l:List Nat) (w:World) (h:Lim w A n c l) :
    Calls Tryz.prog 188 #[.agg #[.bool neg,.slice A n c]] w fun e w'=>e=.returned (.int .i64 (Zft (okW neg l)))/\Below w.heap.size w w':=by
 have hW:∀ X t,WL ((w.alloc X).alloc (.cells #[.bool neg,.slice A n c] t)) (some ⟨w.heap.size+1,0,none⟩) 1 1 [⟨neg,A,n,c,l⟩]:=fun X t=>by
  have:=WL.one (neg:=neg) (h.alloc X) t;rw [World.size_alloc] at this;exact this
 have hW:=Za hW;go_enter Tryz.func188,Tryz.ntmps188;go_wp2_with (go_at_call 147;refine (Zib _ _ _ _ _ (hW.out _ _)).mono ?_;rintro e w1 ⟨rfl,hb⟩);go_ret;exact ⟨by simp [WE.ok],((Below.refl _ _).alloc (Nat.le_refl _) _).alloc (by simp) _ |>.trans (hb.mono (by simp;omega))⟩
theorem Zf5 {va vb:Nat}:(0 <= Zbw (digits va) (digits vb)) ↔ vb <= va:=by
 unfold Zbw;rw [Zh,Zh]
 split
 ·rename_i h
  have:=(Zo va ((digits vb).length - 1)).1 (by omega);have h2:=Zfu (n:=vb) (k:=(digits vb).length - 1) (by omega)
  constructor <;> intro <;> omega
 ·split
  ·rename_i h
   have:=(Zo vb ((digits va).length - 1)).1 (by omega);have h2:=Zfu (n:=va) (k:=(digits va).length - 1) (by omega)
   constructor <;> intro <;> omega
  ·split
   ·constructor <;> intro <;> omega
   ·split <;> constructor <;> intro <;> omega
theorem Zir (s:Bool) (a b:Nat):sg s (a+b)=sg s a+sg s b:=by unfold sg;split <;> omega
theorem Zem {s t:Bool} (h:s ≠ t) {a b d:Nat} (hd:d+b=a):sg s d=sg s a+sg t b:=by
 cases s <;> cases t <;> simp_all [sg] <;> omega
theorem Zq {B:Nat} {w w':World} (h:Below B w.drew w'):Below B w w':=⟨h.os,h.tape,h.output,h.size,h.block⟩
theorem Zra (na nb:Bool) (A B:Option Addr) (n c m d:Nat) (va vb:Nat) (w:World) (ha:Lim w A n c (digits va)) (hb:Lim w B m d (digits vb)) (hn:n <= 4096) (hm:m <= 4096) :
    Calls Tryz.prog 194 #[.agg #[.bool na,.slice A n c],.agg #[.bool nb,.slice B m d]] w (ResW w (sg na va+sg nb vb)):=by
 obtain ⟨cv,hcv⟩:∃ x:Int,Zbw (digits va) (digits vb)=x:=⟨_,rfl⟩;have HC:=Za hcv
 have hge:0 <= cv ↔ vb <= va:=by rw [<- hcv];exact Zf5
 have hge:=Za hge
 by_cases hs:na=nb
 ·subst hs
  clear hcv
  have HZ:∀ l:List Nat,val l=val (digits va)+val (digits vb)->sg na (val l)=sg na va+sg na vb:=fun l h=>by rw [h,Zh,Zh,Zir]
  go_enter Tryz.func194,Tryz.ntmps194;go_wp2_with (go_at_call 154;refine (Zb8 _ _ _ _ _ _ _ _ _ (((ha.alloc _).alloc _).alloc _) (((hb.alloc _).alloc _).alloc _)).mono ?_;rintro e w1 ⟨he1,hb1⟩;rw [HC.out] at he1;subst he1;obtain ⟨hc1,hf1⟩:=Zca hb1;have hz1:w.heap.size+1+1 < w1.heap.size:=by (have:=hb1.size;simp at this;omega));have hB1:Below w.heap.size w w1:=(((((Below.refl w.heap.size w).alloc (Nat.le_refl _) _).alloc (by simp) _).alloc (by simp;omega) _).trans (hb1.mono (by simp;omega)));have ha1:=ha.below hB1;have hb1':=hb.below hB1
  have g0:w1.cell? ⟨w.heap.size,0,none⟩=some (.bool na):=by simp [hc1,go_sem]
  have g1:w1.cell? ⟨w.heap.size,1,none⟩=some (.slice A n c):=by simp [hc1,go_sem]
  have f0:w1.cell? ⟨w.heap.size+1,0,none⟩=some (.bool na):=by simp [hc1,go_sem]
  have g2:w1.cell? ⟨w.heap.size+1,1,none⟩=some (.slice B m d):=by simp [hc1,go_sem]
  have g7:Blk w1 (w.heap.size+1+1) 27 #[.bool false,.slice none 0 0]:=by
   refine Zc hb1 ?_;have:=Blk.new ((w.alloc (.cells #[.bool na,.slice A n c] 27)).alloc (.cells #[.bool na,.slice B m d] 27)) 27 #[.bool false,.slice none 0 0];simp only [World.size_alloc] at this;exact this
  have g3:=g7.cell 0;have g4:=g7.cell 1;have g5:=g7.frozen 0;have g6:=g7.frozen 1
  simp at g3 g4
  go_region_held3 (fun w'=>w'.cell? ⟨w.heap.size,0,none⟩=some (.bool na)/\w'.cell? ⟨w.heap.size,1,none⟩=some (.slice A n c)/\w'.cell? ⟨w.heap.size+1,0,none⟩=some (.bool na)/\w'.cell? ⟨w.heap.size+1,1,none⟩=some (.slice B m d))
   (((try dsimp only);(repeat' apply And.intro);all_goals (first | go_keep | (simp [*,go_sem];done))))
   (first
    | (go_at_call 153;refine (Zoi _ _ _ _ _ _ _ _ _ (by exact ha1) (by exact hb1') (by omega) (by omega)).mono ?_;rintro e w2 ⟨A2,n2,c2,l2,rfl,hL2,hP2,hb2⟩;have k0:=Zb hb2 g0;have k1:=Zb hb2 g1;have j0:=Zb hb2 f0;have k2:=Zb hb2 g2;have k3:=Zb hb2 g3;have k4:=Zb hb2 g4;have k5:=Zk hb2 g3 g5;have k6:=Zk hb2 g4 g6;have k7:=Zc hb2 g7)
    | (go_at_call 155;refine (Zbt _ _ _ _ _ _ (by exact hL2)).mono ?_;rintro e w3 ⟨hb3,neg3,A3,n3,c3,code3,rfl,hR3⟩;have m0:=Zb hb3 k0;have m1:=Zb hb3 k1;have i0:=Zb hb3 j0;have m2:=Zb hb3 k2;have m3:=Zb hb3 k3;have m4:=Zb hb3 k4;have m5:=Zk hb3 k3 k5;have m6:=Zk hb3 k4 k6;have m7:=Zc hb3 k7))
  have hB3:Below w.heap.size w w3:=(hB1.trans ((Zq hb2).mono hB1.size)).trans (hb3.mono (Nat.le_trans hB1.size (Zq hb2).size))
  go_wp2
  refine bodyPost_ret (v:=.tuple #[.agg #[.bool neg3,.slice A3 n3 c3],.int .i64 code3]) (by simp [results,Tryz.results194,go_sem,m3,m4]) rfl ?_;exact ResW.box (HZ l2 hP2.2 ▸ hR3) hB3 (by omega) m7
 ·have hne:(na == nb)=false:=by simpa using hs
  by_cases hcc:0 <= cv
  ·have hvl:=hge.out.1 hcc
   have HLE:Hid (m <= n):=by have:=Zw hvl;rw [ha.len,hb.len] at this;exact this
   have HVL:Hid (val (digits vb) <= val (digits va)):=by rw [Zh,Zh];exact hvl
   have HZ:∀ l:List Nat,val l+val (digits vb)=val (digits va)->sg na (val l)=sg na va+sg nb vb:=fun l h=>Zem hs (by rw [Zh,Zh] at h;exact h)
   clear hcv hvl hs;go_enter Tryz.func194,Tryz.ntmps194;go_wp2_with (go_at_call 154;refine (Zb8 _ _ _ _ _ _ _ _ _ (((ha.alloc _).alloc _).alloc _) (((hb.alloc _).alloc _).alloc _)).mono ?_;rintro e w1 ⟨he1,hb1⟩;rw [HC.out] at he1;subst he1;obtain ⟨hc1,hf1⟩:=Zca hb1;have hz1:w.heap.size+1+1 < w1.heap.size:=by (have:=hb1.size;simp at this;omega));have hB1:Below w.heap.size w w1:=(((((Below.refl w.heap.size w).alloc (Nat.le_refl _) _).alloc (by simp) _).alloc (by simp;omega) _).trans (hb1.mono (by simp;omega)));have ha1:=ha.below hB1;have hb1':=hb.below hB1
   have g0:w1.cell? ⟨w.heap.size,0,none⟩=some (.bool na):=by simp [hc1,go_sem]
   have g1:w1.cell? ⟨w.heap.size,1,none⟩=some (.slice A n c):=by simp [hc1,go_sem]
   have f0:w1.cell? ⟨w.heap.size+1,0,none⟩=some (.bool nb):=by simp [hc1,go_sem]
   have g2:w1.cell? ⟨w.heap.size+1,1,none⟩=some (.slice B m d):=by simp [hc1,go_sem]
   have g7:Blk w1 (w.heap.size+1+1) 27 #[.bool false,.slice none 0 0]:=by
    refine Zc hb1 ?_;have:=Blk.new ((w.alloc (.cells #[.bool na,.slice A n c] 27)).alloc (.cells #[.bool nb,.slice B m d] 27)) 27 #[.bool false,.slice none 0 0];simp only [World.size_alloc] at this;exact this
   have g3:=g7.cell 0;have g4:=g7.cell 1;have g5:=g7.frozen 0;have g6:=g7.frozen 1
   simp at g3 g4
   go_region_held3 (fun w'=>w'.cell? ⟨w.heap.size,0,none⟩=some (.bool na)/\w'.cell? ⟨w.heap.size,1,none⟩=some (.slice A n c)/\w'.cell? ⟨w.heap.size+1,0,none⟩=some (.bool nb)/\w'.cell? ⟨w.heap.size+1,1,none⟩=some (.slice B m d))
    (((try dsimp only);(repeat' apply And.intro);all_goals (first | go_keep | (simp [*,go_sem];done))))
    (first
     | (go_at_call 202;refine (Zia _ _ _ _ _ _ _ _ _ (by exact ha1) (by exact hb1') HLE.out HVL.out (by omega)).mono ?_;rintro e w2 ⟨A2,n2,c2,l2,rfl,hL2,hP2,hb2⟩;have k0:=Zb hb2 g0;have k1:=Zb hb2 g1;have j0:=Zb hb2 f0;have k2:=Zb hb2 g2;have k3:=Zb hb2 g3;have k4:=Zb hb2 g4;have k5:=Zk hb2 g3 g5;have k6:=Zk hb2 g4 g6;have k7:=Zc hb2 g7)
     | (go_at_call 155;refine (Zbt _ _ _ _ _ _ (by exact hL2)).mono ?_;rintro e w3 ⟨hb3,neg3,A3,n3,c3,code3,rfl,hR3⟩;have m0:=Zb hb3 k0;have m1:=Zb hb3 k1;have i0:=Zb hb3 j0;have m2:=Zb hb3 k2;have m3:=Zb hb3 k3;have m4:=Zb hb3 k4;have m5:=Zk hb3 k3 k5;have m6:=Zk hb3 k4 k6;have m7:=Zc hb3 k7))
   have hB3:Below w.heap.size w w3:=(hB1.trans ((Zq hb2).mono hB1.size)).trans (hb3.mono (Nat.le_trans hB1.size (Zq hb2).size))
   go_wp2
   refine bodyPost_ret (v:=.tuple #[.agg #[.bool neg3,.slice A3 n3 c3],.int .i64 code3]) (by simp [results,Tryz.results194,go_sem,m3,m4]) rfl ?_;exact ResW.box (HZ l2 hP2.2 ▸ hR3) hB3 (by omega) m7
  ·have hvl:va <= vb:=by
     rcases Nat.lt_or_ge vb va with h | h
     ·exact absurd (hge.out.2 (Nat.le_of_lt h)) hcc
     ·exact h
   have HLE:Hid (n <= m):=by have:=Zw hvl;rw [ha.len,hb.len] at this;exact this
   have HVL:Hid (val (digits va) <= val (digits vb)):=by rw [Zh,Zh];exact hvl
   have HZ:∀ l:List Nat,val l+val (digits va)=val (digits vb)->sg nb (val l)=sg na va+sg nb vb:=fun l h=>by rw [Int.add_comm];exact Zem (Ne.symm hs) (by rw [Zh,Zh] at h;exact h)
   clear hcv hvl hs;go_enter Tryz.func194,Tryz.ntmps194;go_wp2_with (go_at_call 154;refine (Zb8 _ _ _ _ _ _ _ _ _ (((ha.alloc _).alloc _).alloc _) (((hb.alloc _).alloc _).alloc _)).mono ?_;rintro e w1 ⟨he1,hb1⟩;rw [HC.out] at he1;subst he1;obtain ⟨hc1,hf1⟩:=Zca hb1;have hz1:w.heap.size+1+1 < w1.heap.size:=by (have:=hb1.size;simp at this;omega));have hB1:Below w.heap.size w w1:=(((((Below.refl w.heap.size w).alloc (Nat.le_refl _) _).alloc (by simp) _).alloc (by simp;omega) _).trans (hb1.mono (by simp;omega)));have ha1:=ha.below hB1;have hb1':=hb.below hB1
   have g0:w1.cell? ⟨w.heap.size,0,none⟩=some (.bool na):=by simp [hc1,go_sem]
   have g1:w1.cell? ⟨w.heap.size,1,none⟩=some (.slice A n c):=by simp [hc1,go_sem]
   have f0:w1.cell? ⟨w.heap.size+1,0,none⟩=some (.bool nb):=by simp [hc1,go_sem]
   have g2:w1.cell? ⟨w.heap.size+1,1,none⟩=some (.slice B m d):=by simp [hc1,go_sem]
   have g7:Blk w1 (w.heap.size+1+1) 27 #[.bool false,.slice none 0 0]:=by
    refine Zc hb1 ?_;have:=Blk.new ((w.alloc (.cells #[.bool na,.slice A n c] 27)).alloc (.cells #[.bool nb,.slice B m d] 27)) 27 #[.bool false,.slice none 0 0];simp only [World.size_alloc] at this;exact this
   have g3:=g7.cell 0;have g4:=g7.cell 1;have g5:=g7.frozen 0;have g6:=g7.frozen 1
   simp at g3 g4
   go_region_held3 (fun w'=>w'.cell? ⟨w.heap.size,0,none⟩=some (.bool na)/\w'.cell? ⟨w.heap.size,1,none⟩=some (.slice A n c)/\w'.cell? ⟨w.heap.size+1,0,none⟩=some (.bool nb)/\w'.cell? ⟨w.heap.size+1,1,none⟩=some (.slice B m d))
    (((try dsimp only);(repeat' apply And.intro);all_goals (first | go_keep | (simp [*,go_sem];done))))
    (first
     | (go_at_call 202;refine (Zia _ _ _ _ _ _ _ _ _ (by exact hb1') (by exact ha1) HLE.out HVL.out (by omega)).mono ?_;rintro e w2 ⟨A2,n2,c2,l2,rfl,hL2,hP2,hb2⟩;have k0:=Zb hb2 g0;have k1:=Zb hb2 g1;have j0:=Zb hb2 f0;have k2:=Zb hb2 g2;have k3:=Zb hb2 g3;have k4:=Zb hb2 g4;have k5:=Zk hb2 g3 g5;have k6:=Zk hb2 g4 g6;have k7:=Zc hb2 g7)
     | (go_at_call 155;refine (Zbt _ _ _ _ _ _ (by exact hL2)).mono ?_;rintro e w3 ⟨hb3,neg3,A3,n3,c3,code3,rfl,hR3⟩;have m0:=Zb hb3 k0;have m1:=Zb hb3 k1;have i0:=Zb hb3 j0;have m2:=Zb hb3 k2;have m3:=Zb hb3 k3;have m4:=Zb hb3 k4;have m5:=Zk hb3 k3 k5;have m6:=Zk hb3 k4 k6;have m7:=Zc hb3 k7))
   have hB3:Below w.heap.size w w3:=(hB1.trans ((Zq hb2).mono hB1.size)).trans (hb3.mono (Nat.le_trans hB1.size (Zq hb2).size))
   go_wp2
   refine bodyPost_ret (v:=.tuple #[.agg #[.bool neg3,.slice A3 n3 c3],.int .i64 code3]) (by simp [results,Tryz.results194,go_sem,m3,m4]) rfl ?_;exact ResW.box (HZ l2 hP2.2 ▸ hR3) hB3 (by omega) m7
end Go.Proofs.YtaioanjcjijckaaGreat
