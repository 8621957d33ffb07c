/- Package wide: made, times, and what is built on them. -/
import Derived.Deep.RegionHeld3
import Derived.Deep.DeepFit
import Derived.BigQuiet
import Derived.Deep.QuietTactic
import Derived.Test.YthappeninglakaaGreatZd03
set_option maxRecDepth 100000
set_option maxHeartbeats 2000000
set_option linter.unusedSimpArgs false
set_option linter.unusedVariables false
namespace Go.Proofs.YthappeninglakaaGreat
open Go.RowKit
open Nat renaming le_refl→Qa,mod_lt→Qe,mul_le_mul_right→Qf,lt_or_ge→Qg,eq_zero_or_pos→Qh,le_trans→Qi,le_of_lt→Qm,zero_le→Qn,div_add_mod→Qr,div_le_self→Qs,mul_le_mul_left→Qu,lt_trans→Qv,lt_of_le_of_lt→Qw,pow_pos→Qx,div_eq_of_lt→Qy,mod_eq_of_lt→Qz
open Below renaming refl→Qb
open World renaming size_alloc→Qc,cell?_setCell_other→Qo
open Blk renaming new→Qd
open List renaming length_take→Qj,length_set→Qp,replicate→Qt
open Int renaming fdiv→Qk,fmod→Ql
open And renaming intro→Qq
attribute [local go_sem] Zh
theorem Zxv{w w':World}{A:Option Addr}{n c:Nat}{l:List Nat}{neg:Bool}(h:Lim w A n c l)(hb:Below w.heap.size w w')(hs:val l<pw 4096) :
    ResW w (sg neg (val l)) (.returned (.tuple #[.agg #[.bool (neg && decide (0<(digits (val l)).length)),.slice A (digits (val l)).length c],.int .i64 0])) w':=
 ⟨hb,_,_,_,_,_,rfl,.inl ⟨by rw[Z4];exact hs,rfl,(Wd.made h neg hs).below hb⟩⟩
theorem Zb5(neg:Bool)(A:Option Addr)(n c:Nat)(l:List Nat)(w:World)(h:Lim w A n c l) :
    Calls Tryz.prog 158 #[.bool neg,.slice A n c] w (ResW w (sg neg (val l))):=by
 have hk:=h.canon.2;have o:=h.2.1;have f:=h.2.2.1;unfold maxLen at f
 have HO:Hid (∀ w',Below w.heap.size w w'->val l<pw 4096->ResW w (sg neg (val l)) (.returned (.tuple #[.agg #[.bool (neg && decide (0<(digits (val l)).length)),.slice A (digits (val l)).length c],.int .i64 0])) w'):=
  λw' hb hs=>Zxv h hb hs
 have HB:Hid (∀ w',Below w.heap.size w w'->pw 4096<=val l->ResW w (sg neg (val l)) (.returned (.tuple #[.agg #[.bool false,.slice none 0 0],.int .i64 16])) w'):=
  λw' hb hs=>⟨hb,_,_,_,_,_,rfl,.inr ⟨by rw[Z4];exact hs,rfl,rfl,rfl,rfl,rfl⟩⟩
 have HI:=Za (Zs (val l) 4096);have HT:=Za (Zf3 A n c l);generalize hm:(digits (val l)).length=m at *;clear hm;by_cases h1:m<=4096
 ·by_cases h2:0<m
  ·have e:(neg && decide (0<m))=neg:=by simp[h2]
   simp only[e]at HO;clear e;have hd:decide (0<m)=true:=by simpa using h2
   cases neg
   all_goals
    go_enter Tryz.func158,Tryz.ntmps158;go_wp2_with (go_at_call 185;refine(HT.out _ (h.alloc _)).mono ?_;rintro e w' ⟨rfl,rfl⟩);go_returns;exact HO.out _ ((Qb _ _).alloc (Qa _) _) (HI.out.1 h1)
  ·obtain rfl:m=0:=by omega
   have e:(neg && decide (0<0))=false:=by simp
   simp only[e]at HO;clear e;cases neg
   all_goals
    go_enter Tryz.func158,Tryz.ntmps158;go_wp2_with (go_at_call 185;refine(HT.out _ (h.alloc _)).mono ?_;rintro e w' ⟨rfl,rfl⟩);go_returns;exact HO.out _ ((Qb _ _).alloc (Qa _) _) (HI.out.1 h1)
 ·have hp:pw 4096<=val l:=by
    rcases Qg (val l) (pw 4096)with h'|h';exact absurd (HI.out.2 h') h1;exact h'
  have HP:=Za hp;clear hp;go_enter Tryz.func158,Tryz.ntmps158;go_wp2_with (go_at_call 185;refine(HT.out _ (h.alloc _)).mono ?_;rintro e w' ⟨rfl,rfl⟩);go_returns;exact HB.out _ ((Qb _ _).alloc (Qa _) _) HP.out
def Times1(w:World)(a b:List Nat)(g i k carry:Nat)(wr:World):Prop:=
 ∃ out,Blk wr g 106 (Zw out)/\out.length=a.length+b.length/\Lt32 out/\(∀ j,i+b.length<=j->out[j]?.getD 0=0) /\
  val out+pw (i+k)*carry=val (a.take i)*val b+pw i*(a[i]?.getD 0*val (b.take k))/\carry<4294967296/\Below w.heap.size w wr
theorem Times1.start(w:World)(a b:List Nat):Times1 w a b w.heap.size 0 0 0 (w.alloc (.cells (Zw (Qt (a.length+b.length) 0)) 106)):=
 ⟨Qt _ 0,Qd _ _ _,by simp,Lt32.replicate _,λj _=>Zdx _ _,by simp[Zec,val],by omega,(Qb _ _).alloc (Qa _) _⟩
theorem Times1.step{w wr:World}{a b out:List Nat}{i k carry s q:Nat}(hblk:Blk wr w.heap.size 106 (Zw out))(hlen:out.length=a.length+b.length)(hlt:Lt32 out)(hz:∀ j,i+b.length<=j->out[j]?.getD 0=0)
    (hI:val out+pw (i+k)*carry=val (a.take i)*val b+pw i*(a[i]?.getD 0*val (b.take k))) (hc:carry<4294967296) (hB:Below w.heap.size w wr) (hi:i<a.length) (hk:k<b.length)
    (ha:Lt32 a) (hb:Lt32 b) (hs:s<4294967296) (he:s+4294967296*q=carry+a[i]?.getD 0*b[k]?.getD 0+out[i+k]?.getD 0) :
    Times1 w a b w.heap.size i (k+1) q (wr.setCell ⟨w.heap.size,i+k,none⟩ (limb s)):=
 ⟨out.set (i+k) s,by rw[<- Zbt];exact hblk.set_ _ _,by rw[Qp];exact hlen,hlt.set _ hs,λj hj=>by rw[getD_set_ne _ (by omega)];exact hz j (by omega),
  Zs4 (by omega) hI he,Zyo (ha.get i) (hb.get k) (hlt.get _) hc he,hB.setCell (p:=⟨w.heap.size,i+k,none⟩) (Qa _) _⟩
theorem Times1.row{w wr:World}{a b:List Nat}{i carry:Nat}(h:Times1 w a b w.heap.size i b.length carry wr)(hi:i<a.length) :
    Times1 w a b w.heap.size (i+1) 0 0 (wr.setCell ⟨w.heap.size,i+b.length,none⟩ (limb carry)):=by
 obtain⟨out,f,e,o,hz,hI,hc,hB⟩:=h;rw[List.take_length]at hI;refine⟨out.set (i+b.length) carry,by rw[<- Zbt];exact f.set_ _ _,by rw[Qp];exact e,o.set _ hc,λj hj=>by rw[getD_set_ne _ (by omega)];exact hz j (by omega),?_,by omega,hB.setCell (p:=⟨w.heap.size,i+b.length,none⟩) (Qa _) _⟩;have:=Zv1 (by omega) (hz _ (Qa _)) hI;simp[val,this]
theorem Times1.stop{w wr:World}{a b:List Nat}{carry:Nat}(h:Times1 w a b w.heap.size a.length 0 carry wr)(hn:a.length+b.length<=maxLen)(h0:carry=0) :
    OutL w (λl=>l.length=a.length+b.length/\val l=val a*val b) (.returned (.slice (some ⟨w.heap.size,0,none⟩) (a.length+b.length) (a.length+b.length))) wr:=by
 obtain⟨out,f,e,o,-,hI,-,hB⟩:=h;have hL:=Lim.of_blk f o (by omega);rw[e]at hL;refine⟨_,_,_,_,rfl,hL,⟨e,?_⟩,hB⟩;subst h0;simpa [val]using hI
theorem Zvh(A B:Option Addr)(n c m d:Nat)(a b:List Nat)(w:World)(ha:Lim w A n c a)(hb:Lim w B m d b)(hn:n<=1000000000)(hm:m<=1000000000) :
    Calls Tryz.prog 178 #[.slice A n c,.slice B m d] w (OutL w λl=>l.length=n+m/\val l=val a*val b):=by
 obtain⟨i0,hi,a1,U,I⟩:=info_parts Zc9;have a4:=Zgi (P:=Tryz.prog) 37 106 Tryz.underlying37 hi a1 U I ((n:Int)+m) (n+m) (by omega) (by omega);have a9:=ha.2.1;have a5:=hb.2.1;have a0:=ha.2.2.1;have a2:=hb.2.2.1;unfold maxLen at a0 a2;have o:=Za ha.len;have h:=Za hb.len;go_enter Tryz.func178,Tryz.ntmps178
 go_wp2
 go_loopw [19] (λiv wr=>∃ i:Nat,i<=n/\iv=.int .i64 i/\Times1 w a b w.heap.size i 0 0 wr) (λiv _=>n-(intOf iv).toNat)
 case atStart=>exact⟨0,Qn _,rfl,by have:=Times1.start w a b;rw[ha.len,hb.len]at this;exact this⟩
 case round =>
  obtain⟨i,a6,rfl,hP⟩:=hrel;by_cases hlt1:i<n
  ·have a3:Below w.heap.size w wr:=by obtain⟨out,h1,h2,h3,h4,h5,h6,h7⟩:=hP;exact h7
   obtain⟨ba,oa,rfl,a8⟩:=(ha.below a3).at_ hlt1;have O:=ha.lt.get i;obtain⟨wo,rfl⟩:∃ wo:World,wo=wr:=⟨_,rfl⟩
   go_wp2
   go_loopw [8,26] (λcv kv wr=>∃ k carry:Nat,k<=m/\cv=.int .u64 carry/\kv=.int .i64 k/\Times1 w a b w.heap.size i k carry wr) (λ_ kv _=>m-(intOf kv).toNat)
   case atStart=>exact⟨0,0,Qn _,rfl,rfl,hP⟩
   case round =>
    obtain⟨k,carry,hk,rfl,rfl,hP⟩:=hrel;by_cases hlt2:k<m
    ·obtain⟨out,e,f,C,hz,hI,u,hB⟩:=hP
     have hz:=Za hz;have hI:=Za hI;have f:=Za f;have J:=e.lt;obtain⟨bb,ob,rfl,a7⟩:=(hb.below hB).at_ hlt2;have V:=hb.lt.get k;have y:=e.cell (i+k);rw[Zaq out (i+k) (by rw[f.out,o.out,h.out];omega)]at y;have Y:=C.get (i+k);have T:=e.frozen (i+k)
     go_wp2
     go_roundw
     case rel =>
      rw[Zug u O V Y,Zm1,Zlt];exact⟨k+1,_,by omega,rfl,by go_num,Times1.step e f.out C hz.out hI.out u hB (by rw[o.out];exact hlt1) (by rw[h.out];exact hlt2) ha.lt hb.lt (Qe _ (by decide)) (by omega)⟩
     case measure=>simp[intOf];omega
    ·obtain rfl:k=m:=by omega
     have HR:Hid (Times1 w a b w.heap.size (i+1) 0 0 (wr.setCell ⟨w.heap.size,i+k,none⟩ (limb carry))):=by
      rw[<- h.out]at hP ⊢;exact hP.row (by rw[o.out];exact hlt1)
     obtain⟨out,e,f,C,hz,hI,u,hB⟩:=hP;have J:=e.lt;have y:=e.cell (i+k);rw[Zaq out (i+k) (by rw[f,o.out,h.out];omega)]at y;have T:=e.frozen (i+k);clear hz hI f e
     go_wp2
     go_roundw
     case rel=>exact⟨i+1,by omega,by go_num,HR.out⟩
     case measure=>simp[intOf];omega
  ·obtain rfl:i=n:=by omega
   have HF:Hid (OutL w (λl=>l.length=i+m/\val l=val a*val b) (.returned (.slice (some ⟨w.heap.size,0,none⟩) (i+m) (i+m))) wr):=by
    rw[<- h.out];have h1:=o.out;subst h1;exact Times1.stop hP (by rw[h.out];unfold maxLen;omega) rfl
   clear hP
   go_wp2
   go_ret;exact HF.out
def Zfr(b:Bool):Int:=if b then 0 else 8
theorem Zj1(A:Option Addr)(n c:Nat)(es:List WE)(w:World)(h:WL w A n c es) :
    Calls Tryz.prog 163 #[.slice A n c] w λe w'=>e=.returned (.int .i64 (Zfr (es.all WE.ok)))/\Below w.heap.size w w':=by
 have Y:=h.2.1;have O:=h.2.2.1;unfold maxLen at O;go_enter Tryz.func163,Tryz.ntmps163
 go_wp2
 go_loopw [8] (λv wr=>∃ k:Nat,k<=n/\v=.int .i64 k/\Hid (∀ e ∈ es.take k,e.ok=true)/\Below w.heap.size w wr) (λv _=>n-(intOf v).toNat)
 case atStart=>exact⟨0,Qn _,rfl,by unfold Hid;simp,Qb _ _⟩
 case round =>
  obtain⟨k,hk,rfl,ho,hB⟩:=hrel;by_cases hk0:k<n
  ·obtain⟨b,o,e,rfl,he,I,J,hL⟩:=(h.below hB).at_ hk0
   have T:=hL.2.1;have y:=hL.2.2.1;unfold maxLen at y;have HE:=Za he;have HLen:=Za hL.len
   have u:Hid (e.ok=true->∀ x ∈ es.take (k+1),x.ok=true):=λhok x hx=>by
    rw[List.take_add_one,HE.out]at hx;rcases List.mem_append.1 hx with hx|hx;exact ho.out x hx;simp at hx;subst hx;exact hok
   have f:Hid (e.ok=false->Ending.returned (.int .i64 8)=.returned (.int .i64 (Zfr (es.all WE.ok)))):=λhok=>by
    have:es.all WE.ok=false:=by
     rw[List.all_eq_false];exact⟨e,List.mem_of_getElem? HE.out,by simp[hok]⟩
    rw[this];rfl
   obtain⟨neg,A1,n1,c1,l1⟩:=e;dsimp only at I J hL T y HLen;clear he;by_cases t1:n1<=4096
   ·by_cases t2:0<n1
    ·obtain⟨b1,o1,rfl,hx⟩:=hL.at_ (k:=n1-1) (by omega)
     have U:=Zo hx;by_cases t3:l1[n1-1]?.getD 0=0
     ·have C:(((l1[n1-1]?.getD 0:Nat):Int) == 0)=true:=by simp[t3]
      have H8:=Za (f.out (Zqm (by rw[HLen.out];exact t2) (by rw[HLen.out];exact t3)));clear t3 hL
      go_wp2
      go_ret;exact⟨H8.out,hB.alloc hB.size _⟩
     ·have C:(((l1[n1-1]?.getD 0:Nat):Int) == 0)=false:=by simpa using t3
      have HG:=Za (u.out (Zxg (by rw[HLen.out];exact t2) (by rw[HLen.out];exact t1) (by rw[HLen.out];exact t3)));have V:((n1:Int) == 0)=false:=by simp;omega
      clear t3 hL;cases neg
      all_goals
       go_wp2
       go_roundw
       case rel=>exact⟨k+1,by omega,by go_num,HG,hB.alloc hB.size _⟩
       case measure=>simp[intOf];omega
    ·obtain rfl:n1=0:=by omega
     cases neg
     ·have HG:=Za (u.out (by unfold WE.ok;rw[Zoh HLen.out];rfl))
      clear hL
      go_wp2
      go_roundw
      case rel=>exact⟨k+1,by omega,by go_num,HG,hB.alloc hB.size _⟩
      case measure=>simp[intOf];omega
     ·have H8:=Za (f.out (by unfold WE.ok;rw[Zoh HLen.out];rfl))
      clear hL
      go_wp2
      go_ret;exact⟨H8.out,hB.alloc hB.size _⟩
   ·have H8:=Za (f.out (Zt0 (by rw[HLen.out];omega)))
    clear hL
    go_wp2
    go_ret;exact⟨H8.out,hB.alloc hB.size _⟩
  ·obtain rfl:k=n:=by omega
   have HA:Hid (es.all WE.ok=true):=by
    unfold Hid;rw[List.all_eq_true];have:=ho.out;rw[List.take_of_length_le (by rw[h.len];exact Qa _)]at this;exact this
   go_wp2
   go_ret;exact⟨by rw[HA.out];rfl,hB⟩
theorem Zdt{A:Option Addr}{n c:Nat}{es:List WE}{w:World}(h:WL w A n c es)(hk:es.all WE.ok=true) :
    Calls Tryz.prog 163 #[.slice A n c] w λe w'=>e=.returned (.int .i64 0)/\Below w.heap.size w w':=
 (Zj1 A n c es w h).mono λ_ _ ⟨he,hb⟩=>⟨by rw[he,hk];rfl,hb⟩
theorem Zvq{A:Option Addr}{n c:Nat}{es:List WE}{w:World}(h:WL w A n c es)(hk:es.all WE.ok=false) :
    Calls Tryz.prog 163 #[.slice A n c] w λe w'=>e=.returned (.int .i64 8)/\Below w.heap.size w w':=
 (Zj1 A n c es w h).mono λ_ _ ⟨he,hb⟩=>⟨by rw[he,hk];rfl,hb⟩
theorem Zoa(neg:Bool)(A:Option Addr)(n c:Nat)(l:List Nat)(w:World)(h:Lim w A n c l) :
    Calls Tryz.prog 156 #[.agg #[.bool neg,.slice A n c]] w λe w'=>e=.returned (.int .i64 (Zfr (okW neg l)))/\Below w.heap.size w w':=by
 have hW:∀ X t,WL ((w.alloc X).alloc (.cells #[.bool neg,.slice A n c] t)) (some ⟨w.heap.size+1,0,none⟩) 1 1 [⟨neg,A,n,c,l⟩]:=λX t=>by
  have:=WL.one (neg:=neg) (h.alloc X) t;rw[Qc]at this;exact this
 have hW:=Za hW;go_enter Tryz.func156,Tryz.ntmps156;go_wp2_with (go_at_call 163;refine(Zj1 _ _ _ _ _ (hW.out _ _)).mono ?_;rintro e w1 ⟨rfl,hb⟩);go_ret;exact⟨by simp[WE.ok],((Qb _ _).alloc (Qa _) _).alloc (by simp) _ |>.trans (hb.mono (by simp;omega))⟩
theorem Zhg{va vb:Nat}:(0<=Zce (digits va) (digits vb)) ↔ vb<=va:=by
 unfold Zce;rw[Zi,Zi]
 split
 ·rename_i h
  have:=(Zs va ((digits vb).length-1)).1 (by omega);have h2:=Zg0 (n:=vb) (k:=(digits vb).length-1) (by omega);constructor <;> intro <;> omega
 ·split
  ·rename_i h
   have:=(Zs vb ((digits va).length-1)).1 (by omega);have h2:=Zg0 (n:=va) (k:=(digits va).length-1) (by omega);constructor <;> intro <;> omega
  ·split
   ·constructor <;> intro <;> omega
   ·split <;> constructor <;> intro <;> omega
theorem Zkq(s:Bool)(a b:Nat):sg s (a+b)=sg s a+sg s b:=by unfold sg;split <;> omega
theorem Zfl{s t:Bool}(h:s≠t){a b d:Nat}(hd:d+b=a):sg s d=sg s a+sg t b:=by
 cases s <;> cases t <;> simp_all [sg] <;> omega
theorem Zr{B:Nat}{w w':World}(h:Below B w.drew w'):Below B w w':=⟨h.os,h.tape,h.output,h.size,h.block⟩
theorem Zue(na nb:Bool)(A B:Option Addr)(n c m d:Nat)(va vb:Nat)(w:World)(ha:Lim w A n c (digits va))(hb:Lim w B m d (digits vb))(hn:n<=4096)(hm:m<=4096) :
    Calls Tryz.prog 164 #[.agg #[.bool na,.slice A n c],.agg #[.bool nb,.slice B m d]] w (ResW w (sg na va+sg nb vb)):=by
 obtain⟨cv,a3⟩:∃ x:Int,Zce (digits va) (digits vb)=x:=⟨_,rfl⟩;have HC:=Za a3;have a4:0<=cv ↔ vb<=va:=by rw[<- a3];exact Zhg
 have a4:=Za a4;by_cases hs:na=nb
 ·subst hs
  clear a3;have HZ:∀ l:List Nat,val l=val (digits va)+val (digits vb)->sg na (val l)=sg na va+sg na vb:=λl h=>by rw[h,Zi,Zi,Zkq]
  go_enter Tryz.func164,Tryz.ntmps164;go_wp2_with (go_at_call 186;refine(Zci _ _ _ _ _ _ _ _ _ (((ha.alloc _).alloc _).alloc _) (((hb.alloc _).alloc _).alloc _)).mono ?_;rintro e w1 ⟨T,y⟩;rw[HC.out]at T;subst T;obtain⟨C,a6⟩:=Zcp y;have a5:w.heap.size+1+1<w1.heap.size:=by(have:=y.size;simp at this;omega));have u:Below w.heap.size w w1:=(((((Qb w.heap.size w).alloc (Qa _) _).alloc (by simp) _).alloc (by simp;omega) _).trans (y.mono (by simp;omega)));have V:=ha.below u;have J:=hb.below u;have g0:w1.cell? ⟨w.heap.size,0,none⟩=some (.bool na):=by simp[C,go_sem]
  have g1:w1.cell? ⟨w.heap.size,1,none⟩=some (.slice A n c):=by simp[C,go_sem]
  have f0:w1.cell? ⟨w.heap.size+1,0,none⟩=some (.bool na):=by simp[C,go_sem]
  have g2:w1.cell? ⟨w.heap.size+1,1,none⟩=some (.slice B m d):=by simp[C,go_sem]
  have g7:Blk w1 (w.heap.size+1+1) 39 #[.bool false,.slice none 0 0]:=by
   refine Zd y ?_;have:=Qd ((w.alloc (.cells #[.bool na,.slice A n c] 39)).alloc (.cells #[.bool na,.slice B m d] 39)) 39 #[.bool false,.slice none 0 0];simp only[Qc]at this;exact this
  have g3:=g7.cell 0;have g4:=g7.cell 1;have g5:=g7.frozen 0;have g6:=g7.frozen 1;simp at g3 g4
  go_region_held3 (λw'=>w'.cell? ⟨w.heap.size,0,none⟩=some (.bool na)/\w'.cell? ⟨w.heap.size,1,none⟩=some (.slice A n c)/\w'.cell? ⟨w.heap.size+1,0,none⟩=some (.bool na)/\w'.cell? ⟨w.heap.size+1,1,none⟩=some (.slice B m d))
   (((try dsimp only);(repeat' apply Qq);all_goals (first|go_keep|(simp[*,go_sem];done))))
   (first
    | (go_at_call 168;refine(Zq6 _ _ _ _ _ _ _ _ _ (by exact V) (by exact J) (by omega) (by omega)).mono ?_;rintro e w2 ⟨A2,n2,c2,l2,rfl,a2,a1,f⟩;have k0:=Zb f g0;have k1:=Zb f g1;have j0:=Zb f f0;have k2:=Zb f g2;have k3:=Zb f g3;have k4:=Zb f g4;have k5:=Zk f g3 g5;have k6:=Zk f g4 g6;have k7:=Zd f g7)
    | (go_at_call 158;refine(Zb5 _ _ _ _ _ _ (by exact a2)).mono ?_;rintro e w3 ⟨o,O,A3,n3,c3,I,rfl,a0⟩;have m0:=Zb o k0;have m1:=Zb o k1;have i0:=Zb o j0;have m2:=Zb o k2;have m3:=Zb o k3;have m4:=Zb o k4;have m5:=Zk o k3 k5;have m6:=Zk o k4 k6;have m7:=Zd o k7))
  have Y:Below w.heap.size w w3:=(u.trans ((Zr f).mono u.size)).trans (o.mono (Qi u.size (Zr f).size))
  go_wp2
  refine bodyPost_ret (v:=.tuple #[.agg #[.bool O,.slice A3 n3 c3],.int .i64 I]) (by simp[results,Tryz.results164,go_sem,m3,m4]) rfl ?_;exact ResW.box (HZ l2 a1.2▸a0) Y (by omega) m7
 ·have a7:(na == nb)=false:=by simpa using hs
  by_cases hcc:0<=cv
  ·have U:=a4.out.1 hcc
   have HLE:Hid (m<=n):=by have:=Z2 U;rw[ha.len,hb.len]at this;exact this
   have HVL:Hid (val (digits vb)<=val (digits va)):=by rw[Zi,Zi];exact U
   have HZ:∀ l:List Nat,val l+val (digits vb)=val (digits va)->sg na (val l)=sg na va+sg nb vb:=λl h=>Zfl hs (by rw[Zi,Zi]at h;exact h);clear a3 U hs;go_enter Tryz.func164,Tryz.ntmps164;go_wp2_with (go_at_call 186;refine(Zci _ _ _ _ _ _ _ _ _ (((ha.alloc _).alloc _).alloc _) (((hb.alloc _).alloc _).alloc _)).mono ?_;rintro e w1 ⟨T,y⟩;rw[HC.out]at T;subst T;obtain⟨C,a6⟩:=Zcp y;have a5:w.heap.size+1+1<w1.heap.size:=by(have:=y.size;simp at this;omega));have u:Below w.heap.size w w1:=(((((Qb w.heap.size w).alloc (Qa _) _).alloc (by simp) _).alloc (by simp;omega) _).trans (y.mono (by simp;omega)));have V:=ha.below u;have J:=hb.below u;have g0:w1.cell? ⟨w.heap.size,0,none⟩=some (.bool na):=by simp[C,go_sem]
   have g1:w1.cell? ⟨w.heap.size,1,none⟩=some (.slice A n c):=by simp[C,go_sem]
   have f0:w1.cell? ⟨w.heap.size+1,0,none⟩=some (.bool nb):=by simp[C,go_sem]
   have g2:w1.cell? ⟨w.heap.size+1,1,none⟩=some (.slice B m d):=by simp[C,go_sem]
   have g7:Blk w1 (w.heap.size+1+1) 39 #[.bool false,.slice none 0 0]:=by
    refine Zd y ?_;have:=Qd ((w.alloc (.cells #[.bool na,.slice A n c] 39)).alloc (.cells #[.bool nb,.slice B m d] 39)) 39 #[.bool false,.slice none 0 0];simp only[Qc]at this;exact this
   have g3:=g7.cell 0;have g4:=g7.cell 1;have g5:=g7.frozen 0;have g6:=g7.frozen 1;simp at g3 g4
   go_region_held3 (λw'=>w'.cell? ⟨w.heap.size,0,none⟩=some (.bool na)/\w'.cell? ⟨w.heap.size,1,none⟩=some (.slice A n c)/\w'.cell? ⟨w.heap.size+1,0,none⟩=some (.bool nb)/\w'.cell? ⟨w.heap.size+1,1,none⟩=some (.slice B m d))
    (((try dsimp only);(repeat' apply Qq);all_goals (first|go_keep|(simp[*,go_sem];done))))
    (first
     | (go_at_call 187;refine(Zjy _ _ _ _ _ _ _ _ _ (by exact V) (by exact J) HLE.out HVL.out (by omega)).mono ?_;rintro e w2 ⟨A2,n2,c2,l2,rfl,a2,a1,f⟩;have k0:=Zb f g0;have k1:=Zb f g1;have j0:=Zb f f0;have k2:=Zb f g2;have k3:=Zb f g3;have k4:=Zb f g4;have k5:=Zk f g3 g5;have k6:=Zk f g4 g6;have k7:=Zd f g7)
     | (go_at_call 158;refine(Zb5 _ _ _ _ _ _ (by exact a2)).mono ?_;rintro e w3 ⟨o,O,A3,n3,c3,I,rfl,a0⟩;have m0:=Zb o k0;have m1:=Zb o k1;have i0:=Zb o j0;have m2:=Zb o k2;have m3:=Zb o k3;have m4:=Zb o k4;have m5:=Zk o k3 k5;have m6:=Zk o k4 k6;have m7:=Zd o k7))
   have Y:Below w.heap.size w w3:=(u.trans ((Zr f).mono u.size)).trans (o.mono (Qi u.size (Zr f).size))
   go_wp2
   refine bodyPost_ret (v:=.tuple #[.agg #[.bool O,.slice A3 n3 c3],.int .i64 I]) (by simp[results,Tryz.results164,go_sem,m3,m4]) rfl ?_;exact ResW.box (HZ l2 a1.2▸a0) Y (by omega) m7
  ·have U:va<=vb:=by
     rcases Qg vb va with h|h;exact absurd (a4.out.2 (Qm h)) hcc;exact h
   have HLE:Hid (n<=m):=by have:=Z2 U;rw[ha.len,hb.len]at this;exact this
   have HVL:Hid (val (digits va)<=val (digits vb)):=by rw[Zi,Zi];exact U
   have HZ:∀ l:List Nat,val l+val (digits va)=val (digits vb)->sg nb (val l)=sg na va+sg nb vb:=λl h=>by rw[Int.add_comm];exact Zfl (Ne.symm hs) (by rw[Zi,Zi]at h;exact h)
   clear a3 U hs;go_enter Tryz.func164,Tryz.ntmps164;go_wp2_with (go_at_call 186;refine(Zci _ _ _ _ _ _ _ _ _ (((ha.alloc _).alloc _).alloc _) (((hb.alloc _).alloc _).alloc _)).mono ?_;rintro e w1 ⟨T,y⟩;rw[HC.out]at T;subst T;obtain⟨C,a6⟩:=Zcp y;have a5:w.heap.size+1+1<w1.heap.size:=by(have:=y.size;simp at this;omega));have u:Below w.heap.size w w1:=(((((Qb w.heap.size w).alloc (Qa _) _).alloc (by simp) _).alloc (by simp;omega) _).trans (y.mono (by simp;omega)));have V:=ha.below u;have J:=hb.below u;have g0:w1.cell? ⟨w.heap.size,0,none⟩=some (.bool na):=by simp[C,go_sem]
   have g1:w1.cell? ⟨w.heap.size,1,none⟩=some (.slice A n c):=by simp[C,go_sem]
   have f0:w1.cell? ⟨w.heap.size+1,0,none⟩=some (.bool nb):=by simp[C,go_sem]
   have g2:w1.cell? ⟨w.heap.size+1,1,none⟩=some (.slice B m d):=by simp[C,go_sem]
   have g7:Blk w1 (w.heap.size+1+1) 39 #[.bool false,.slice none 0 0]:=by
    refine Zd y ?_;have:=Qd ((w.alloc (.cells #[.bool na,.slice A n c] 39)).alloc (.cells #[.bool nb,.slice B m d] 39)) 39 #[.bool false,.slice none 0 0];simp only[Qc]at this;exact this
   have g3:=g7.cell 0;have g4:=g7.cell 1;have g5:=g7.frozen 0;have g6:=g7.frozen 1;simp at g3 g4
   go_region_held3 (λw'=>w'.cell? ⟨w.heap.size,0,none⟩=some (.bool na)/\w'.cell? ⟨w.heap.size,1,none⟩=some (.slice A n c)/\w'.cell? ⟨w.heap.size+1,0,none⟩=some (.bool nb)/\w'.cell? ⟨w.heap.size+1,1,none⟩=some (.slice B m d))
    (((try dsimp only);(repeat' apply Qq);all_goals (first|go_keep|(simp[*,go_sem];done))))
    (first
     | (go_at_call 187;refine(Zjy _ _ _ _ _ _ _ _ _ (by exact J) (by exact V) HLE.out HVL.out (by omega)).mono ?_;rintro e w2 ⟨A2,n2,c2,l2,rfl,a2,a1,f⟩;have k0:=Zb f g0;have k1:=Zb f g1;have j0:=Zb f f0;have k2:=Zb f g2;have k3:=Zb f g3;have k4:=Zb f g4;have k5:=Zk f g3 g5;have k6:=Zk f g4 g6;have k7:=Zd f g7)
     | (go_at_call 158;refine(Zb5 _ _ _ _ _ _ (by exact a2)).mono ?_;rintro e w3 ⟨o,O,A3,n3,c3,I,rfl,a0⟩;have m0:=Zb o k0;have m1:=Zb o k1;have i0:=Zb o j0;have m2:=Zb o k2;have m3:=Zb o k3;have m4:=Zb o k4;have m5:=Zk o k3 k5;have m6:=Zk o k4 k6;have m7:=Zd o k7))
   have Y:Below w.heap.size w w3:=(u.trans ((Zr f).mono u.size)).trans (o.mono (Qi u.size (Zr f).size))
   go_wp2
   refine bodyPost_ret (v:=.tuple #[.agg #[.bool O,.slice A3 n3 c3],.int .i64 I]) (by simp[results,Tryz.results164,go_sem,m3,m4]) rfl ?_;exact ResW.box (HZ l2 a1.2▸a0) Y (by omega) m7
def Zpg(w:World)(a b:Nat)(e:Ending)(w':World):Prop:=
 ∃ A n c B m d,e=.returned (.tuple #[.slice A n c,.slice B m d])/\Lim w' A n c (digits (a/b))/\Lim w' B m d (digits (a%b))/\Below w.heap.size w w'
theorem Blk.setCells{w:World}{g g' o:Nat}{t:TypeId}{cs:Array Value}{us:List Value}(h:Blk w g t cs)(hne:g≠g'):Blk (w.setCells g' o us) g t cs:=by
 induction us generalizing o w with
 | nil=>exact h
 | cons u us ih=>exact ih (h.far hne u)
theorem Zmj{B:Nat}{w w':World}{g o:Nat}{us:List Value}(h:Below B w w')(hg:B<=g):Below B w (w'.setCells g o us):=by
 induction us generalizing o w' with
 | nil=>exact h
 | cons u us ih=>exact ih (h.setCell (p:=⟨g,o,none⟩) hg u)
theorem Zh1{v:List Nat}{n:Nat}(hn:v.length=n)(h0:0<n)(hlt:Lt32 v):val v<(v[n-1]?.getD 0+1)*pw (n-1):=by
 have e:=Zad v (n-1) (by omega);rw[Zbl (by omega),List.drop_of_length_le (by omega)]at e;have h1:=Zgg (hlt.take (n-1));rw[Qj,Nat.min_eq_left (by omega)]at h1;simp only[val]at e;rw[e,Nat.add_mul,Nat.one_mul,Nat.mul_comm (v[n-1]?.getD 0)];simp only[Nat.mul_zero,Nat.add_zero];omega
theorem Zlo{v:Nat}(h:(digits v).length=1):digits v=[v]/\0<v/\v<4294967296:=by
 have hv:0<v:=length_digits_pos.1 (by omega);have e:=Zck v;rw[h]at e;have:v<4294967296:=e;refine⟨?_,hv,this⟩;rw[Zdj (by omega),Qy this,Qz this,Zap]
theorem Zqs(A B:Option Addr)(n c m d:Nat)(a b:Nat)(w:World)(ha:Lim w A n c (digits a))(hb:Lim w B m d (digits b))(hn:n<=100000)(h:a<b) :
    Calls Tryz.prog 182 #[.slice A n c,.slice B m d] w (Zpg w a b):=by
 have y:Hid (Zce (digits a) (digits b)<0):=by
  have:=(Zhg (va:=a) (vb:=b));unfold Hid;omega
 obtain⟨cv,f⟩:∃ x:Int,Zce (digits a) (digits b)=x:=⟨_,rfl⟩;have I:cv<0:=by rw[<- f];exact y.out
 have HC:=Za f;clear y f;go_enter Tryz.func182,Tryz.ntmps182;go_wp2_with fail;refine(Zci _ _ _ _ _ _ _ _ _ ha hb).mono ?_;rintro e w1 ⟨u,o⟩;rw[HC.out]at u;subst u;go_wp2_with fail;refine(Zhw _ _ _ _ _ (ha.below o) (by omega)).mono ?_;rintro e w2 ⟨v,rfl,hO,C⟩;obtain⟨A2,c2,hv,hL⟩:=hO.lim;subst hv;go_wp2_with fail
 go_ret2
 have hB:Below w.heap.size w w2:=o.trans (C.mono o.size);exact⟨_,_,_,_,_,_,rfl,by rw[Qy h,Zap];exact Lim.nil _ _ _ (Qn _),by rw[Qz h];rw[show (digits a).length=n from ha.len]at hL ⊢;exact hL,hB⟩
theorem Zry(A B:Option Addr)(n c m d:Nat)(a b:Nat)(w:World)(ha:Lim w A n c (digits a))(hb:Lim w B m d (digits b))(hn:n<=100000)(h:b<=a)(hm:m=1) :
    Calls Tryz.prog 182 #[.slice A n c,.slice B m d] w (Zpg w a b):=by
 subst hm;have b0:=ha.2.1;have a5:=ha.2.2.1;have a9:=hb.2.1;have a7:=hb.2.2.1;unfold maxLen at a5 a7;obtain⟨cv,C⟩:∃ x:Int,Zce (digits a) (digits b)=x:=⟨_,rfl⟩;have J:¬ cv<0:=by rw[<- C];have:=(Zhg (va:=a) (vb:=b));omega
 have a4:decide (cv<0)=false:=by simpa using J
 have HC:=Za C;clear C J;obtain⟨O,U,I⟩:=Zlo hb.len;obtain⟨g,o,rfl,f⟩:=hb.at_ (k:=0) (by omega);rw[O]at f;simp at f;replace O:=Za O;have y:a%b<4294967296:=Qv (Qe _ U) I;have a6:=Za (Zi a);go_enter Tryz.func182,Tryz.ntmps182;go_wp2_with fail;refine(Zci _ _ _ _ _ _ _ _ _ ha hb).mono ?_;rintro e w1 ⟨T,u⟩;rw[HC.out]at T;subst T;have a2:=Zb u f;go_wp2_with fail;refine(Zuy _ _ _ b _ _ (ha.below u) U I (by omega)).mono ?_;rintro e w2 ⟨A2,n2,c2,rfl,Y,V⟩;rw[a6.out]at Y ⊢;obtain⟨r,hr⟩:∃ r,a%b=r:=⟨_,rfl⟩;rw[hr]at y ⊢;replace hr:=Za hr
 have a3:∀ t,Lim (w2.alloc (.cells #[limb r] t)) (some ⟨w2.heap.size,0,none⟩) 1 1 [r]:=λt=>by
  have:=Lim.of_blk (l:=[r]) (Qd w2 t (Zw [r])) (Lt32.cons y Lt32.nil) (by simp[maxLen]);exact this
 have a0:=Za a3;have a8:canon [r]=digits r:=by have:=Zrj (Lt32.cons y Lt32.nil);simpa [val]using this
 go_wp2_with fail;refine(Zf3 _ _ _ _ _ (a0.out _)).mono ?_;rintro e w3 ⟨rfl,rfl⟩;go_wp2_with fail
 go_ret2
 have a1:=(a0.out 106).canon.1;rw[show val [r]=r by simp[val]]at a1 ⊢;refine⟨_,_,_,_,_,_,rfl,Y.alloc _,by rw[hr.out];exact a1,((u.trans (V.mono u.size))).alloc (Qi u.size V.size) _⟩
theorem Lim.far{w:World}{A:Option Addr}{n c:Nat}{l:List Nat}(h:Lim w A n c l){p:Addr}{u:Value}(hne:∀ b o,A=some ⟨b,o,none⟩->b≠p.block):Lim (w.setCell p u) A n c l:=
 ⟨h.1,h.2.1,h.2.2.1,h.2.2.2.1,λhn=>by
  obtain⟨b,o,e,hc⟩:=h.2.2.2.2 hn;have hb:=hne b o e;exact⟨b,o,e,λk hk=>(Qo w _ _ u (λe2=>hb (by rw[e2]))).trans (hc k hk)⟩⟩
theorem Lim.setCells{A:Option Addr}{n c g:Nat}{l:List Nat}{us:List Value}(hne:∀ b o,A=some ⟨b,o,none⟩->b≠g):∀ {w:World} {o:Nat},Lim w A n c l->Lim (w.setCells g o us) A n c l:=by
 induction us with
 | nil=>exact λh=>h
 | cons u us ih=>exact λh=>ih (h.far hne)
theorem MutL.far{w:World}{g off:Nat}{l:List Nat}(h:MutL w g off l){p:Addr}{u:Value}(hne:g≠p.block):MutL (w.setCell p u) g off l:=λj hj =>
 ⟨(Qo w _ _ u (λe2=>hne (by rw[e2]))).trans (h j hj).1,by rw[World.frozen?_setCell];exact(h j hj).2⟩
theorem MutL.lim{w:World}{g:Nat}{l:List Nat}{n c:Nat}(h:MutL w g 0 l)(hl:l.length=n)(hnc:n<=c)(hcm:c<=maxLen)(hlt:Lt32 l):Lim w (some ⟨g,0,none⟩) n c l:=
 ⟨hl,hnc,hcm,hlt,λ_=>⟨g,0,rfl,λk hk=>(h k (by omega)).1⟩⟩
def DivR(w:World)(g q:Nat)(A:Option Addr)(c m nq:Nat)(vl:List Nat)(a b s k:Nat)(wr:World):Prop:=
 ∃ lu lq,DivI (2^s*a) (2^s*b) m lu lq k/\lq.length=nq/\MutL wr g 0 lu/\Blk wr q 106 (Zw lq)/\Lim wr A m c vl/\Below w.heap.size w wr
theorem DivR.step{w wr wr1:World}{g q:Nat}{A:Option Addr}{c m nq:Nat}{vl lu lq:List Nat}{a b s k:Nat}{l:List Nat}(hD:DivI (2^s*a) (2^s*b) m lu lq (k+1))(hq:lq.length=nq)(hM:MutL wr g 0 lu)(hB:Blk wr q 106 (Zw lq))
    (hL:Lim wr A m c vl) (hw:Below w.heap.size w wr) (hv:val vl=2^s*b) (hlen:l.length=m+1) (hlt:Lt32 l) (hl:val l=val ((lu.drop k).take (m+1))%val vl) (hb1:Below wr.heap.size wr wr1) (hQ:val ((lu.drop k).take (m+1))/val vl<4294967296)
    (hgq:g≠q) (hA:∀ b o,A=some ⟨b,o,none⟩->b≠g/\b≠q) (hg:w.heap.size<=g) (hqs:w.heap.size<=q) :
    DivR w g q A c m nq vl a b s k ((wr1.setCells g k (l.map limb)).setCell ⟨q,k,none⟩ (limb (val ((lu.drop k).take (m+1))/val vl))):=by
 have h:2^s*b<=pw m:=by rw[<- hv];exact Qm hL.lt_pw
 have f:k+l.length<=lu.length:=by have:=hD.2.2.1;have:=hD.2.2.2.1;omega
 refine⟨splice lu k l,lq.set k (val ((lu.drop k).take (m+1))/val vl),hD.step h hlen hlt hQ (by rw[hv]) (by rw[<- hv];exact hl),by rw[Qp];exact hq,
  ((hM.below hb1).splice f).far hgq,?_,((hL.below hb1).setCells (λb o e=>(hA b o e).1)).far (λb o e=>(hA b o e).2),?_⟩
 ·rw[<- Zbt]
  exact((hB.below hb1 hB.lt).setCells (Ne.symm hgq)).set_ _ _
 exact(Zmj (hw.trans (hb1.mono hw.size)) hg).setCell (p:=⟨q,k,none⟩) hqs _
theorem Zq5(A B:Option Addr)(n c m d:Nat)(a b:Nat)(w:World)(ha:Lim w A n c (digits a))(hb:Lim w B m d (digits b))(hn:n<=100000)(h:b<=a)(hm:2<=m) :
    Calls Tryz.prog 182 #[.slice A n c,.slice B m d] w (Zpg w a b):=by
 have i9:=ha.2.1;have g9:=ha.2.2.1;have j1:=hb.2.1;have i4:=hb.2.2.1;unfold maxLen at g9 i4;have i2:m<=n:=by have:=Z2 h;rw[ha.len,hb.len]at this;exact this
 obtain⟨i0,hi,h9,h3,g6⟩:=info_parts Zc9;have j0:=Zgi (P:=Tryz.prog) 37 106 Tryz.underlying37 hi h9 h3 g6 ((n:Int)+1-m) (n+1-m) (by omega) (by omega);obtain⟨cv,a1⟩:∃ x:Int,Zce (digits a) (digits b)=x:=⟨_,rfl⟩;have b4:¬ cv<0:=by rw[<- a1];have:=(Zhg (va:=a) (vb:=b));omega
 have g7:decide (cv<0)=false:=by simpa using b4
 have HC:=Za a1;clear a1 b4;have j3:((m:Int) == 1)=false:=by simp;omega
 obtain⟨g,o,rfl,I⟩:=hb.at_ (k:=m-1) (by omega);have f:=hb.len;have b9:=Zfv (v:=b) (by omega);have f9:=Zo0 f (by omega);have b7:=hb.lt.get (m-1);have e3:=Zck b;rw[f]at b9 e3;have Y:=Zh1 f (by omega) hb.lt;rw[Zi]at f9 Y;obtain⟨x,hx⟩:∃ x,(digits b)[m-1]?.getD 0=x:=⟨_,rfl⟩;rw[hx]at I b9 f9 b7 Y;replace f:=Za f;replace hx:=Za hx;have O:=Za (Zi a);have U:=Za (Zi b);go_enter Tryz.func182,Tryz.ntmps182;go_wp2_with fail;refine(Zci _ _ _ _ _ _ _ _ _ ha hb).mono ?_;rintro e w1 ⟨f3,y⟩;rw[HC.out]at f3;subst f3;have a9:=Zb y I;go_wp2_with fail;refine(Zyh x _ (by omega) b7).mono ?_;rintro e w2 ⟨s,rfl,hs,hxs,rfl⟩;have h8:=ha.below y;have e6:=hb.below y;go_wp2_with fail
 go_region_with (first
  | (go_at_call 166;((with_reducible refine(Zra (some ⟨g,o,none⟩) m d s (digits b) _ e6.drew hs (by omega)).mono ?_));rintro e w3 ⟨v3,o3,rfl,e5,a7,a2,a8⟩;obtain⟨A3,c3,J,a6⟩:=e5.lim;rw[a7]at J a6;subst J;have i8:=a6.2.1;have c9:=a6.2.2.1;unfold maxLen at c9;replace a7:=Za a7;replace a2:=Za a2;clear e5)
  | (go_at_call 166;((with_reducible refine(Zra A n c s (digits a) _ (h8.drew.below a8) hs (by omega)).mono ?_));rintro e w4 ⟨v4,o4,rfl,c8,a5,V,c0⟩;obtain⟨g4,c4,b2,j4,i6,f0,e0,g2⟩:=c8.mut (by omega);rw[a5]at b2 f0;subst b2;unfold maxLen at e0;replace a5:=Za a5;replace V:=Za V))
 all_goals go_wp2_with fail
 all_goals
  replace U:=U.out;replace O:=O.out;rw[U]at a2;rw[O]at V;have b3:=a7.out;have J:=a2.out
  have d0:2^s*(x+1)<=4294967296:=by
   have h1:2^s*(x+1)<=2^s*2^(32-s):=Qu _ hxs;rw[<- Nat.pow_add,show s+(32-s)=32 by omega]at h1;exact h1
  have e4:2^s*b<pw m:=by
   have h1:2^s*b<2^s*((x+1)*pw (m-1)):=Nat.mul_lt_mul_of_pos_left Y (Qx (by omega));have h2:2^s*((x+1)*pw (m-1))<=4294967296*pw (m-1):=by rw[<- Nat.mul_assoc];exact Qf _ d0
   rw[<- Zbh,show m-1+1=m by omega]at h2;omega
  have a3:val (o3.take m)=2^s*b:=by
   have h1:=Zad o3 m (by omega);rcases Qh (val (o3.drop m))with h0|h0;rw[h0]at h1;omega;have:=Qu (pw m) h0;omega
  have g0:=(a6.take (k:=m) (by omega)).below c0
  have j2:pw (m-1)<=2^s*b:=by
   have h1:=Qf (pw (m-1)) (show 1<=x by omega);have h2:1*b<=2^s*b:=Qf _ (Qx (by omega));omega
  have i3:(o3.take m)[m-1]?.getD 0≠0:=λh0=>by
   have h1:=Zh1 (v:=o3.take m) (n:=m) (by rw[Qj,b3];omega) (by omega) g0.lt;rw[h0,a3]at h1;omega
  have c5:Below w.heap.size w w4:=(y.trans ((Zr a8).mono y.size)).trans (c0.mono (Qi y.size (Zr a8).size))
  have b0:DivR w g4 w4.heap.size A3 c3 m (n+1-m) (o3.take m) a b s (n+1-m) (w4.alloc (.cells (Zw (Qt (n+1-m) 0)) 106)):=by
   have h1:=DivI.start (a:=digits a) (b:=digits b) (u:=o4) (s:=s) (n:=m) (by rw[O];exact V.out) (by rw[a5.out,ha.len]) c8.2 (by rw[ha.len];exact i2) ha.lt (by rw[U];have:=Qf (pw (m-1)) (show 1<=x by omega);omega) (by omega);rw[O,U,ha.len]at h1;exact⟨o4,_,h1,by simp,g2.below ((Qb _ _).alloc (Qa _) _),Qd _ _ _,g0.alloc _,c5.alloc c5.size _⟩
  have h6:∀ b o,A3=some ⟨b,o,none⟩->b≠g4/\b≠w4.heap.size:=λb o e=>by
   subst e;have h1:=Zo (a6.cell (k:=0) (by omega));have:=c0.size;simp only[]at h1;omega
  have h5:w.heap.size<=g4:=by have:=y.size;have:=(Zr a8).size;omega
  have g1:g4≠w4.heap.size:=by omega
  clear g2 c8 a5 V a2 a7 O U I a9 J b3;replace a3:=Za a3
  go_loopw [12] (λjv wr=>∃ k:Nat,k<=n+1-m/\jv=.int .i64 ((k:Int)-1)/\DivR w g4 w4.heap.size A3 c3 m (n+1-m) (o3.take m) a b s k wr) (λjv _=>(intOf jv+1).toNat)
  case atStart=>exact⟨n+1-m,Qa _,rfl,b0⟩
  case round =>
   obtain⟨k,hk,rfl,lu,lq,hD,hq,hM,T,g5,c7⟩:=hrel;replace hq:=Za hq;rcases k with _|k
   ·obtain⟨e1,e2⟩:=hD.stop
    have c1:Lim wr (some ⟨g4,0,none⟩) (n+1) c4 lu:=hM.lim (by have:=hD.2.2.1;have:=hq.out;omega) f0 (by unfold maxLen;omega) hD.1
    have g8:Lim wr (some ⟨w4.heap.size,0,none⟩) (n+1-m) (n+1-m) lq:=by
     have:=Lim.of_blk T hD.2.1 (by rw[hq.out];unfold maxLen;omega);rw[hq.out]at this;exact this
    have f6:=c1.canon.1;replace e1:=Za e1;replace e2:=Za e2;clear hD;go_wp2_with fail;refine(Zf3 _ _ _ _ _ c1).mono ?_;rintro e w5 ⟨rfl,rfl⟩;go_wp2_with fail;refine(Zul _ _ _ s _ _ f6 hs (by have:=c1.canon.2;omega)).mono ?_;rintro e w6 ⟨A6,n6,c6,o6,b6,rfl,f7,f8,a4⟩
    have hz:Hid (val o6=a%b):=by
     unfold Hid;rw[f8,Zi,e2.out,Nat.mul_div_cancel_left _ (Qx (by omega))]
    clear f8;have b5:=g8.below a4;go_wp2_with fail;refine(Zf3 _ _ _ _ _ b5).mono ?_;rintro e w7 ⟨rfl,rfl⟩;go_wp2_with fail;refine(Zf3 _ _ _ _ _ f7).mono ?_;rintro e w8 ⟨rfl,rfl⟩;go_wp2_with fail
    go_ret2
    refine⟨_,_,_,_,_,_,rfl,?_,?_,c7.trans (a4.mono c7.size)⟩;rw[<- e1.out];exact b5.canon.1;rw[<- hz.out];exact f7.canon.1
   ·have h4:=hD
    obtain⟨d1,d2,d3,d4,d5,d6,d7⟩:=h4;replace d3:=Za d3;replace d5:=Za d5;replace d7:=Za d7;have e9:=T.cell k;rw[Zaq lq k (by rw[hq.out];omega)]at e9;have h7:=T.frozen k;go_wp2_with fail;have i5:2^s*b<=pw m:=Qm e4;obtain⟨f4,d8⟩:=hD.win i5;have C:((lu.drop k).take (m+1)).length=m+1:=by rw[Qj,List.length_drop,d3.out];omega
    have i1:MutL wr g4 k ((lu.drop k).take (m+1)):=by
     have:=hM.win (k:=k) (n:=m+1) (by rw[d3.out];omega)
     rwa [Nat.zero_add]at this
    have a0:val ((lu.drop k).take (m+1))<4294967296*val (o3.take m):=by rw[f4,a3.out];exact d8
    rw[show k+m+1-k=m+1 by omega];refine(Zw6 g4 k m (c4-k) c3 A3 _ _ _ i1 C ((d1.drop k).take (m+1)) (by omega) (by unfold maxLen;omega) (by omega) (by omega) g5 a0 i3).mono ?_;rintro e w5 ⟨l,w6,rfl,f5,e8,e7,a4,c2⟩
    have b1:val ((lu.drop k).take (m+1))/val (o3.take m)<4294967296:=by
     rw[Nat.div_lt_iff_lt_mul (by omega)];exact a0
    have hfin:=DivR.step (wr:=wr) hD hq.out hM T g5 c7 a3.out (by rw[f5];exact C) e8 e7 a4 b1 g1 h6 h5 c5.size;rw[<- c2]at hfin;have b8:Blk w5 w4.heap.size 106 (Zw lq):=by rw[c2];exact(T.below a4 T.lt).setCells (Ne.symm g1)
    have d9:=b8.cell k;rw[Zaq lq k (by rw[hq.out];omega)]at d9;have i7:=b8.frozen k;obtain⟨Q,hQ⟩:∃ Q,val ((lu.drop k).take (m+1))/val (o3.take m)=Q:=⟨_,rfl⟩;rw[hQ]at hfin b1 ⊢;clear e9 h7 c2 e7 f5 hQ f4 C a0 d8;replace hfin:=Za hfin;go_wp2_with fail
    go_roundw
    case rel=>exact⟨k,by omega,by go_num,hfin.out⟩
    case measure=>simp[intOf] <;> omega
theorem Zgv(A B:Option Addr)(n c m d:Nat)(a b:Nat)(w:World)(ha:Lim w A n c (digits a))(hb:Lim w B m d (digits b))(hn:n<=100000)(hb0:0<b) :
    Calls Tryz.prog 182 #[.slice A n c,.slice B m d] w (Zpg w a b):=by
 rcases Qg a b with h|h;exact Zqs A B n c m d a b w ha hb hn h
 ·rcases Qg m 2 with h2|h2
  ·have h1:0<(digits b).length:=length_digits_pos.2 hb0
   rw[hb.len]at h1;exact Zry A B n c m d a b w ha hb hn h (by omega)
  exact Zq5 A B n c m d a b w ha hb hn h h2
def BadW(w:World)(e:Ending)(w':World):Prop:=e=.returned (.tuple #[.agg #[.bool false,.slice none 0 0],.int .i64 8])/\Below w.heap.size w w'
theorem Zsc(s:Bool)(v:Nat):sg (!s) v=- sg s v:=by cases s <;> simp[sg]
theorem Zxs(s t:Bool)(a b:Nat):sg (s != t) (a*b)=sg s a*sg t b:=by cases s <;> cases t <;> simp[sg,Int.neg_mul,Int.mul_neg]
theorem Neg_ok(neg:Bool)(A:Option Addr)(n c:Nat)(z:Int)(w:World)(hz:Wd w neg A n c z) :
    Calls Tryz.prog 183 #[.agg #[.bool neg,.slice A n c]] w (ResW w (-z)):=by
 have hL:=hz.lim;have hn:=hz.2.1
 have hW:∀ X Y t,WL (((w.alloc X).alloc Y).alloc (.cells #[.bool neg,.slice A n c] t)) (some ⟨w.heap.size+1+1,0,none⟩) 1 1 [⟨neg,A,n,c,digits z.natAbs⟩]:=λX Y t=>by
  have:=WL.one (neg:=neg) ((hL.alloc X).alloc Y) t;simp only[Qc]at this;exact this
 have hW:=Za hW;have J:∀ X Y Z:Obj,Below w.heap.size w (((w.alloc X).alloc Y).alloc Z):=λX Y Z=>(((Qb w.heap.size w).alloc (Qa _) _).alloc (by simp) _).alloc (by simp;omega) _;have J:=Za J;have I:Hid (okW neg (digits z.natAbs)=true):=hz.ok;have a1:=Za hz.sgEq;clear hz;go_enter Tryz.func183,Tryz.ntmps183;go_wp2_with fail;refine(Zdt (hW.out _ _ _) (by have:=I.out;simp[WE.ok,this])).mono ?_;rintro e w1 ⟨rfl,o⟩;obtain⟨y,a3⟩:=Zcp o;have a5:w.heap.size+1+1<w1.heap.size:=by have:=o.size;simp at this;omega
 have u:Below w.heap.size w w1:=(J.out _ _ _).trans (o.mono (by simp;omega));have g0:w1.cell? ⟨w.heap.size,0,none⟩=some (.bool neg):=by simp[y,go_sem]
 have g1:w1.cell? ⟨w.heap.size,1,none⟩=some (.slice A n c):=by simp[y,go_sem]
 have g7:Blk w1 (w.heap.size+1) 39 #[.bool false,.slice none 0 0]:=by
  refine Zd o (Blk.alloc ?_ _);have:=Qd (w.alloc (.cells #[.bool neg,.slice A n c] 39)) 39 #[.bool false,.slice none 0 0];simp only[Qc]at this;exact this
 have g3:=g7.cell 0;have g4:=g7.cell 1;have g5:=g7.frozen 0;have g6:=g7.frozen 1;simp at g3 g4;have a2:=hL.below u;clear y a3;go_wp2_with fail
 go_region_held3 (λw'=>w'.cell? ⟨w.heap.size,0,none⟩=some (.bool neg)/\w'.cell? ⟨w.heap.size,1,none⟩=some (.slice A n c))
  (((try dsimp only);(repeat' apply Qq);all_goals (first|go_keep|(simp[*,go_sem];done))))
  (first
   | (go_at_call 181;refine(Zhw _ _ _ _ _ (by exact a2) (by omega)).mono ?_;rintro e w2 ⟨v2,rfl,T,f⟩;obtain⟨A2,c2,a4,a0⟩:=T.lim;subst a4;clear T;have k0:=Zb f g0;have k1:=Zb f g1;have k3:=Zb f g3;have k4:=Zb f g4;have k5:=Zk f g3 g5;have k6:=Zk f g4 g6;have k7:=Zd f g7)
   | (go_at_call 158;refine(Zb5 _ _ _ _ _ _ (by exact a0)).mono ?_;rintro e w3 ⟨h,O,A3,n3,c3,C,rfl,V⟩;have m0:=Zb h k0;have m1:=Zb h k1;have m3:=Zb h k3;have m4:=Zb h k4;have m5:=Zk h k3 k5;have m6:=Zk h k4 k6;have m7:=Zd h k7))
 have U:Below w.heap.size w w3:=(u.trans ((Zr f).mono u.size)).trans (h.mono (Qi u.size (Zr f).size))
 have HZ:sg (!neg) (val (digits z.natAbs))=-z:=by
  have h1:=a1.out;rw[Zsc,h1]
 go_wp2
 refine bodyPost_ret (v:=.tuple #[.agg #[.bool O,.slice A3 n3 c3],.int .i64 C]) (by simp[results,Tryz.results183,go_sem,m3,m4]) rfl ?_;exact ResW.box (HZ▸V) U (by omega) m7
def Zeh(a b:Int):Int:=if a<b then -1 else if b<a then 1 else 0
theorem Zej(a b:Nat):Zce (digits a) (digits b)=Zeh a b:=by
 unfold Zce Zeh;rw[Zi,Zi];have h1:a<=b->(digits a).length<=(digits b).length:=Z2;have h2:b<=a->(digits b).length<=(digits a).length:=Z2
 (repeat' split) <;> first|rfl|omega
theorem to_ok(na nb:Bool)(A B:Option Addr)(n c m d:Nat)(za zb:Int)(w:World)(ha:Wd w na A n c za)(hb:Wd w nb B m d zb) :
    Calls Tryz.prog 165 #[.agg #[.bool na,.slice A n c],.agg #[.bool nb,.slice B m d]] w λe w'=>e=.returned (.int .i64 (Zeh za zb))/\Below w.heap.size w w':=by
 have I:=ha.lim;have C:=hb.lim;have u:=ha.1;have o:=hb.1;have f:∀ X Y:Obj,Below w.heap.size w ((w.alloc X).alloc Y):=λX Y=>((Qb w.heap.size w).alloc (Qa _) _).alloc (by simp) _;have f:=Za f;have O:=Za (Zej za.natAbs zb.natAbs);have J:=Za (Zej zb.natAbs za.natAbs)
 have hP:Hid (∀ (e:Ending) (w':World),(e=.returned (.int .i64 (Zce (digits za.natAbs) (digits zb.natAbs)))/\Below w.heap.size w w')->(na=false/\nb=false)->e=.returned (.int .i64 (Zeh za zb))/\Below w.heap.size w w'):=λe w' ⟨h1,h2⟩ ⟨h3,h4⟩=>by
  subst h3 h4;have h5:¬ za<0:=by intro h;simp[h]at u
  have h6:¬ zb<0:=by intro h;simp[h]at o
  refine⟨?_,h2⟩;rw[h1,O.out,show ((za.natAbs:Nat):Int)=za by omega,show ((zb.natAbs:Nat):Int)=zb by omega]
 have hN:Hid (∀ (e:Ending) (w':World),(e=.returned (.int .i64 (Zce (digits zb.natAbs) (digits za.natAbs)))/\Below w.heap.size w w')->(na=true/\nb=true)->e=.returned (.int .i64 (Zeh za zb))/\Below w.heap.size w w'):=λe w' ⟨h1,h2⟩ ⟨h3,h4⟩=>by
  subst h3 h4;have h5:za<0:=by by_cases h:za<0;exact h;simp[h]at u
  have h6:zb<0:=by by_cases h:zb<0;exact h;simp[h]at o
  refine⟨?_,h2⟩;rw[h1,J.out];congr 2;unfold Zeh
  split <;> split <;> (try split) <;> omega
 have hM:Hid (∀ b,na=b->nb=!b->Ending.returned (.int .i64 (if b then -1 else 1))=.returned (.int .i64 (Zeh za zb))):=λb h3 h4=>by
  refine Zi8 ?_;unfold Zeh;cases b
  ·have h5:¬ za<0:=by intro h;simp[h,h3]at u
   have h6:zb<0:=by by_cases h:zb<0;exact h;simp[h,h4]at o
   rw[if_neg (show ¬ za<zb by omega),if_pos (show zb<za by omega)];rfl
  ·have h5:za<0:=by by_cases h:za<0;exact h;simp[h,h3]at u
   have h6:¬ zb<0:=by intro h;simp[h,h4]at o
   rw[if_pos (show za<zb by omega)];rfl
 clear ha hb u o;cases na <;> cases nb
 ·go_enter Tryz.func165,Tryz.ntmps165
  go_wp2_with (go_at_call 186;((with_reducible refine(Zci _ _ _ _ _ _ _ _ _ ((I.alloc _).alloc _) ((C.alloc _).alloc _)).mono ?_));rintro e w1 ⟨rfl,y⟩);go_ret;exact hP.out _ _ ⟨rfl,(f.out _ _).trans (y.mono (by simp;omega))⟩ (by simp)
 ·go_enter Tryz.func165,Tryz.ntmps165
  go_wp2_with fail;go_ret;exact⟨hM.out false rfl rfl,f.out _ _⟩
 ·go_enter Tryz.func165,Tryz.ntmps165
  go_wp2_with fail;go_ret;exact⟨hM.out true rfl rfl,f.out _ _⟩
 ·go_enter Tryz.func165,Tryz.ntmps165
  go_wp2_with (go_at_call 186;((with_reducible refine(Zci _ _ _ _ _ _ _ _ _ ((C.alloc _).alloc _) ((I.alloc _).alloc _)).mono ?_));rintro e w1 ⟨rfl,y⟩);go_ret;exact hN.out _ _ ⟨rfl,(f.out _ _).trans (y.mono (by simp;omega))⟩ (by simp)
theorem Ztm(na nb:Bool)(A B:Option Addr)(n c m d:Nat)(za zb:Int)(w:World)(ha:Wd w na A n c za)(hb:Wd w nb B m d zb) :
    Calls Tryz.prog 121 #[.agg #[.bool na,.slice A n c],.agg #[.bool nb,.slice B m d]] w λe w'=>e=.returned (.tuple #[.int .i64 (Zeh za zb),.int .i64 0])/\Below w.heap.size w w':=by
 have I:=ha.lim;have C:=hb.lim;have u:∀ X Y Z:Obj,Below w.heap.size w (((w.alloc X).alloc Y).alloc Z):=λX Y Z=>(((Qb w.heap.size w).alloc (Qa _) _).alloc (by simp) _).alloc (by simp;omega) _
 have hW:∀ X Y t,WL (((w.alloc X).alloc Y).alloc (.cells #[.bool na,.slice A n c,.bool nb,.slice B m d] t)) (some ⟨w.heap.size+1+1,0,none⟩) 2 2 [⟨na,A,n,c,digits za.natAbs⟩,⟨nb,B,m,d,digits zb.natAbs⟩]:=λX Y t=>by
  have:=WL.two (neg:=na) (neg':=nb) ((I.alloc X).alloc Y) ((C.alloc X).alloc Y) t;simp only[Qc]at this;exact this
 have hW:=Za hW;have u:=Za u;have o:Hid (okW na (digits za.natAbs)=true/\okW nb (digits zb.natAbs)=true):=⟨ha.ok,hb.ok⟩;have O:∀ (fn:Fn) (first cap:Array Value) (w:World),(Instr.makeFunc fn first cap).run Tryz.prog w=.ok (.func fn first cap) w:=λ_ _ _ _=>rfl;have HA:=Za ha;have HB:=Za hb;clear ha hb;go_enter Tryz.func121,Tryz.ntmps121;go_wp2_with fail;refine(Zdt (hW.out _ _ _) (by have:=o.out;simp[WE.ok,this])).mono ?_;rintro e w1 ⟨rfl,h⟩;obtain⟨T,J⟩:=Zcp h;have U:w.heap.size+1+1<w1.heap.size:=by have:=h.size;simp at this;omega
 have f:Below w.heap.size w w1:=(u.out _ _ _).trans (h.mono (by simp;omega));go_wp2_with fail;refine(to_ok na nb A B n c m d za zb _ (HA.out.below f) (HB.out.below f)).mono ?_;rintro e w2 ⟨rfl,y⟩;go_wp2_with fail
 go_ret2
 exact⟨rfl,f.trans (y.mono f.size)⟩
def Zjp(w:World):Value->List Nat
 | .slice (some ad) n _=>(List.range n).map λk=>match w.cell? (ad.add k)with|some (.int _ x)=>x.toNat|_=>0
 | _=>[]
theorem Lim.mem{w:World}{A:Option Addr}{n c:Nat}{l:List Nat}(h:Lim w A n c l):Zjp w (.slice A n c)=l:=by
 rcases A with _|ad
 ·have hn:n=0:=by
    rcases Qh n with h0|h0;exact h0
    ·obtain⟨b,o,e,_⟩:=h.2.2.2.2 h0
     cases e
  subst hn;exact(List.eq_nil_of_length_eq_zero h.len).symm
 ·unfold Zjp
  apply List.ext_getElem (by simp[h.len]);intro i h1 h2;obtain⟨b,o,e,hc⟩:=h.at_ (k:=i) (by rw[<- h.len];exact h2);injection e with e
  subst e;simp only[List.getElem_map,List.getElem_range,Zh,hc];simp[List.getElem?_eq_getElem h2]
def GcdR(w:World)(t:TypeId)(G:Nat)(xv yv:Value)(wr:World):Prop:=
 ∃ (u v:Nat) (A:Option Addr) (n c:Nat) (B:Option Addr) (m d:Nat),xv=.slice A n c/\yv=.slice B m d/\Lim wr A n c (digits u)/\Lim wr B m d (digits v)/\n<=4096/\m<=4096/\Nat.gcd u v=G/\Blk wr (w.heap.size+1+1) t #[.bool false,.slice none 0 0]/\Below w.heap.size w wr
theorem Zj3(na nb:Bool)(A B:Option Addr)(n c m d:Nat)(za zb:Int)(w:World)(ha:Wd w na A n c za)(hb:Wd w nb B m d zb) :
    Calls Tryz.prog 151 #[.agg #[.bool na,.slice A n c],.agg #[.bool nb,.slice B m d]] w (ResW w (Nat.gcd za.natAbs zb.natAbs:Nat)):=by
 have b0:=ha.lim;have b8:=hb.lim;have hn:=ha.2.1;have hm:=hb.2.1;have a6:∀ X Y Z V:Obj,Below w.heap.size w ((((w.alloc X).alloc Y).alloc Z).alloc V):=λX Y Z V=>((((Qb w.heap.size w).alloc (Qa _) _).alloc (by simp) _).alloc (by simp;omega) _).alloc (by simp;omega) _
 have hW:∀ X Y Z t,WL ((((w.alloc X).alloc Y).alloc Z).alloc (.cells #[.bool na,.slice A n c,.bool nb,.slice B m d] t)) (some ⟨w.heap.size+1+1+1,0,none⟩) 2 2 [⟨na,A,n,c,digits za.natAbs⟩,⟨nb,B,m,d,digits zb.natAbs⟩]:=λX Y Z t=>by
  have:=WL.two (neg:=na) (neg':=nb) (((b0.alloc X).alloc Y).alloc Z) (((b8.alloc X).alloc Y).alloc Z) t;simp only[Qc]at this;exact this
 have hW:=Za hW;have a6:=Za a6;have a1:Hid (okW na (digits za.natAbs)=true/\okW nb (digits zb.natAbs)=true):=⟨ha.ok,hb.ok⟩;clear ha hb;generalize za.natAbs=va at *;generalize zb.natAbs=vb at *;obtain⟨G,hG⟩:∃ G,Nat.gcd va vb=G:=⟨_,rfl⟩;rw[hG];replace hG:=Za hG;go_enter Tryz.func151,Tryz.ntmps151;go_wp2_with fail;refine(Zdt (hW.out _ _ _ _) (by have:=a1.out;simp[WE.ok,this])).mono ?_;rintro e w1 ⟨rfl,T⟩;obtain⟨a2,c1⟩:=Zcp T;have d3:w.heap.size+1+1+1<w1.heap.size:=by have:=T.size;simp at this;omega
 have O:Below w.heap.size w w1:=(a6.out _ _ _ _).trans (T.mono (by simp;omega));have g1:w1.cell? ⟨w.heap.size,1,none⟩=some (.slice A n c):=by simp[a2,go_sem]
 have g2:w1.cell? ⟨w.heap.size+1,1,none⟩=some (.slice B m d):=by simp[a2,go_sem]
 have g7:Blk w1 (w.heap.size+1+1) 39 #[.bool false,.slice none 0 0]:=by
  refine Zd T (Blk.alloc ?_ _);have:=Qd ((w.alloc (.cells #[.bool na,.slice A n c] 39)).alloc (.cells #[.bool nb,.slice B m d] 39)) 39 #[.bool false,.slice none 0 0];simp only[Qc]at this;exact this
 have U:=b0.below O;have b2:=b8.below O;replace g7:=Za g7;clear a2 c1;go_wp2_with fail
 go_region_held3 (λw'=>w'.cell? ⟨w.heap.size,1,none⟩=some (.slice A n c)/\w'.cell? ⟨w.heap.size+1,1,none⟩=some (.slice B m d))
  (((try dsimp only);(repeat' apply Qq);all_goals (first|go_keep|(simp[*,go_sem];done))))
  ((go_at_call 181;refine(Zhw _ _ _ _ _ (by exact U) (by omega)).mono ?_;rintro e w2 ⟨v2,rfl,b3,a3⟩;obtain⟨A2,c2,b1,b4⟩:=b3.lim;rw[U.len]at b1 b4;subst b1;clear b3;have k1:=Zb a3 g1;have k2:=Zb a3 g2))
 have y:=Zr a3;have b9:Below w.heap.size w w2:=O.trans (y.mono O.size);have m7:Hid (Blk w2 (w.heap.size+1+1) 39 #[.bool false,.slice none 0 0]):=Zd y g7.out;have a7:=b2.below y;go_wp2_with fail
 go_loopw [7,8] (λxv yv wr=>GcdR w 39 G xv yv wr) (λ_ yv wr=>val (Zjp wr yv))
 case atStart=>exact⟨va,vb,_,_,_,_,_,_,rfl,rfl,b4,a7,hn,hm,hG.out,m7.out,b9⟩
 case round =>
  obtain⟨u,v,A5,n5,c5,B5,m5,d5,rfl,rfl,a0,o,d4,c0,hg,J,I⟩:=hrel;replace hg:=Za hg;replace J:=Za J;by_cases hm0:0<m5
  ·have C:0<v:=by rw[<- o.len]at hm0;exact length_digits_pos.1 hm0
   have a8:=Za o.mem;go_wp2_with fail;refine(Zgv _ _ _ _ _ _ u v _ a0 o (by omega) C).mono ?_;rintro e w5 ⟨A6,n6,c6,B6,m6,d6,rfl,d0,a5,f⟩;go_wp2_with fail
   go_roundw
   case rel=>exact⟨v,u%v,_,_,_,_,_,_,rfl,rfl,o.below f,a5,c0,by have:=Z2 (Qm (Qe u C));rw[a5.len,o.len]at this;omega,by rw[<- hg.out,Nat.gcd_comm u v,Nat.gcd_rec v u,Nat.gcd_comm],Zd f J.out,I.trans (f.mono I.size)⟩
   case measure=>simp only[a8.out,a5.mem,Zi];exact Qe u C
  ·obtain rfl:m5=0:=by omega
   have C:v=0:=by
    rcases Qh v with h|h;exact h;have:=length_digits_pos.2 h;rw[o.len]at this;omega
   subst C;have c9:Hid (u=G):=by have:=hg.out;rw[Nat.gcd_zero_right]at this;exact this
   have g8:=J.out;have g3:=g8.cell 0;have g4:=g8.cell 1;have g5:=g8.frozen 0;have g6:=g8.frozen 1;simp at g3 g4;clear g8;go_wp2_with fail;refine(Zhw _ _ _ _ _ a0 (by omega)).mono ?_;rintro e w5 ⟨v5,rfl,c4,f⟩;obtain⟨A6,c6,b7,b6⟩:=c4.lim;rw[a0.len]at b7 b6;subst b7;go_wp2_with fail;refine(Zb5 _ _ _ _ _ _ b6).mono ?_;rintro e w6 ⟨a9,b5,A7,n7,c7,a4,rfl,c3⟩;have c8:Below w.heap.size w w6:=(I.trans (f.mono I.size)).trans (a9.mono (Qi I.size f.size));have m8:=Zd a9 (Zd f J.out);have m3:=m8.cell 0;have m4:=m8.cell 1;have m5:=m8.frozen 0;have m6:=m8.frozen 1;simp at m3 m4;replace m8:=Za m8;go_wp2_with fail;have HZ:sg false (val (digits u))=(G:Int):=by rw[Zi,c9.out];rfl
   refine bodyPost_ret (v:=.tuple #[.agg #[.bool b5,.slice A7 n7 c7],.int .i64 a4]) (by simp[results,Tryz.results151,go_sem,m3,m4]) rfl ?_;exact ResW.box (HZ▸c3) c8 (by omega) m8.out
theorem Gcd_bad(na nb:Bool)(A B:Option Addr)(n c m d:Nat)(la lb:List Nat)(w:World)(hLa:Lim w A n c la)(hLb:Lim w B m d lb)(f:(okW na la && okW nb lb)=false) :
    Calls Tryz.prog 151 #[.agg #[.bool na,.slice A n c],.agg #[.bool nb,.slice B m d]] w (BadW w):=by
 have o:∀ X Y Z V:Obj,Below w.heap.size w ((((w.alloc X).alloc Y).alloc Z).alloc V):=λX Y Z V=>((((Qb w.heap.size w).alloc (Qa _) _).alloc (by simp) _).alloc (by simp;omega) _).alloc (by simp;omega) _
 have hW:∀ X Y Z t,WL ((((w.alloc X).alloc Y).alloc Z).alloc (.cells #[.bool na,.slice A n c,.bool nb,.slice B m d] t)) (some ⟨w.heap.size+1+1+1,0,none⟩) 2 2 [⟨na,A,n,c,la⟩,⟨nb,B,m,d,lb⟩]:=λX Y Z t=>by
  have:=WL.two (neg:=na) (neg':=nb) (((hLa.alloc X).alloc Y).alloc Z) (((hLb.alloc X).alloc Y).alloc Z) t;simp only[Qc]at this;exact this
 have hW:=Za hW;have o:=Za o;have f:=Za f;go_enter Tryz.func151,Tryz.ntmps151;go_wp2_with fail;refine(Zvq (hW.out _ _ _ _) (by have:=f.out;simpa [WE.ok]using this)).mono ?_;rintro e w1 ⟨rfl,h⟩;obtain⟨u,I⟩:=Zcp h;have J:w.heap.size+1+1+1<w1.heap.size:=by have:=h.size;simp at this;omega
 have y:Below w.heap.size w w1:=(o.out _ _ _ _).trans (h.mono (by simp;omega));go_wp2_with fail;have hg:w1.cell? ⟨w.heap.size+1+1,0,none⟩=some (.bool false):=by simp[u,go_sem]
 have C:w1.cell? ⟨w.heap.size+1+1,1,none⟩=some (.slice none 0 0):=by simp[u,go_sem]
 refine bodyPost_ret (v:=.tuple #[.agg #[.bool false,.slice none 0 0],.int .i64 8]) (by simp[results,Tryz.results151,go_sem,hg,C]) rfl ?_;exact⟨rfl,(y.setCell (p:=⟨w.heap.size+1+1,0,none⟩) (by simp;omega) _).setCell (p:=⟨w.heap.size+1+1,1,none⟩) (by simp;omega) _⟩
theorem fdm{z d q r:Int}(h:z=d*q+r)(hr:(0<=r/\r<d) \/ (d<r/\r<=0)):Qk z d=q/\Ql z d=r:=by
 rcases hr with ⟨h1,h2⟩|⟨h1,h2⟩;exact(Int.fdiv_fmod_unique (by omega)).2 ⟨by omega,h1,h2⟩;exact(Int.fdiv_fmod_unique' (by omega)).2 ⟨by omega,by omega,h2⟩
theorem Zhu(na nb:Bool)(U V:Nat)(hV:0<V)(h:U%V=0 \/ na=nb):Qk (sg na U) (sg nb V)=sg (na != nb) (U/V:Nat)/\Ql (sg na U) (sg nb V)=sg nb (U%V:Nat):=by
 have h1:=Qr U V;have h2:=Qe U hV;generalize U/V=x at *;generalize U%V=y at *;subst h1;have e:((V*x+y:Nat):Int)=(V:Int)*x+y:=by push_cast;rfl
 apply fdm
 ·cases na <;> cases nb <;> simp only[sg,e] <;> simp at h ⊢ <;> grind
 ·cases na <;> cases nb <;> simp[sg]at h ⊢ <;> omega
theorem Zns(na nb:Bool)(U V:Nat)(hV:0<V)(hy:0<U%V)(h:na≠nb):Qk (sg na U) (sg nb V)=sg (na != nb) (U/V+1:Nat)/\Ql (sg na U) (sg nb V)=sg nb (V-U%V:Nat):=by
 have h1:=Qr U V;have h2:=Qe U hV;generalize U/V=x at *;generalize U%V=y at *;subst h1;have e:((V*x+y:Nat):Int)=(V:Int)*x+y:=by push_cast;rfl
 have e2:((V-y:Nat):Int)=(V:Int)-y:=by omega
 apply fdm
 ·cases na <;> cases nb <;> simp only[sg,e,e2] <;> simp at h ⊢ <;> grind
 ·cases na <;> cases nb <;> simp[sg]at h ⊢ <;> omega
def Zjl(w:World)(za zb:Int)(e:Ending)(w':World):Prop:=
 Below w.heap.size w w'/\∃ nq Aq kq cq nr Ar kr cr,e=.returned (.tuple #[.agg #[.bool nq,.slice Aq kq cq],.agg #[.bool nr,.slice Ar kr cr],.int .i64 0])/\Wd w' nq Aq kq cq (Qk za zb)/\Wd w' nr Ar kr cr (Ql za zb)
theorem Zqw(na nb:Bool)(A B:Option Addr)(n c m d:Nat)(za zb:Int)(w:World)(ha:Wd w na A n c za)(hb:Wd w nb B m d zb)(h0:zb≠0)(hy:za.natAbs%zb.natAbs=0) :
    Calls Tryz.prog 184 #[.agg #[.bool na,.slice A n c],.agg #[.bool nb,.slice B m d]] w (Zjl w za zb):=by
 have d3:=ha.lim;have a2:=hb.lim;have hn:=ha.2.1;have hm:=hb.2.1;have f9:=a2.2.2.1;have g9:=a2.2.1;unfold maxLen at f9;have c4:∀ X Y Z V U:Obj,Below w.heap.size w (((((w.alloc X).alloc Y).alloc Z).alloc V).alloc U):=λX Y Z V U=>(((((Qb w.heap.size w).alloc (Qa _) _).alloc (by simp) _).alloc (by simp;omega) _).alloc (by simp;omega) _).alloc (by simp;omega) _
 have hW:∀ X Y Z V t,WL (((((w.alloc X).alloc Y).alloc Z).alloc V).alloc (.cells #[.bool na,.slice A n c,.bool nb,.slice B m d] t)) (some ⟨w.heap.size+1+1+1+1,0,none⟩) 2 2 [⟨na,A,n,c,digits za.natAbs⟩,⟨nb,B,m,d,digits zb.natAbs⟩]:=λX Y Z V t=>by
  have:=WL.two (neg:=na) (neg':=nb) ((((d3.alloc X).alloc Y).alloc Z).alloc V) ((((a2.alloc X).alloc Y).alloc Z).alloc V) t;simp only[Qc]at this;exact this
 have hW:=Za hW;have c4:=Za c4;have b5:Hid (okW na (digits za.natAbs)=true/\okW nb (digits zb.natAbs)=true):=⟨ha.ok,hb.ok⟩;have c1:=ha.sgEq;have b6:=hb.sgEq;rw[Zi]at c1 b6;have hU:=ha.small;have hV:=hb.small;clear ha hb;have a7:0<zb.natAbs:=by omega
 have h2:0<m:=by rw[<- a2.len];exact length_digits_pos.2 a7
 have g6:((m:Int) == 0)=false:=by simp;omega
 obtain⟨a3,T⟩:=Zhu na nb za.natAbs zb.natAbs a7 (Or.inl hy);rw[c1,b6]at a3 T;clear c1 b6 h0;generalize za.natAbs=U at *;generalize zb.natAbs=V at *;have d6:(sg (na != nb) (U/V)).natAbs<pw 4096:=by rw[Z4];exact Qw (Qs _ _) hU
 have c8:(sg nb (U%V)).natAbs<pw 4096:=by rw[Z4];exact Qv (Qe _ a7) hV
 rw[<- a3]at d6;rw[<- T]at c8;have hfin:Hid (∀ (e:Ending) (w':World),(Below w.heap.size w w'/\∃ nq Aq kq cq nr Ar kr cr,e=.returned (.tuple #[.agg #[.bool nq,.slice Aq kq cq],.agg #[.bool nr,.slice Ar kr cr],.int .i64 0])/\Wd w' nq Aq kq cq (Qk za zb)/\Wd w' nr Ar kr cr (Ql za zb))->Zjl w za zb e w'):=λ_ _ h=>h;generalize Qk za zb=ZQ at *;generalize Ql za zb=ZR at *;replace a3:=Za a3;replace T:=Za T;replace hy:=Za hy;go_enter Tryz.func184,Tryz.ntmps184;go_wp2_with fail;refine(Zdt (hW.out _ _ _ _ _) (by have:=b5.out;simp[WE.ok,this])).mono ?_;rintro e w1 ⟨rfl,a0⟩;obtain⟨a1,e6⟩:=Zcp a0;have h1:w.heap.size+1+1+1+1<w1.heap.size:=by have:=a0.size;simp at this;omega
 have a4:Below w.heap.size w w1:=(c4.out _ _ _ _ _).trans (a0.mono (by simp;omega));have g0:w1.cell? ⟨w.heap.size,0,none⟩=some (.bool na):=by simp[a1,go_sem]
 have g1:w1.cell? ⟨w.heap.size,1,none⟩=some (.slice A n c):=by simp[a1,go_sem]
 have g2:w1.cell? ⟨w.heap.size+1,0,none⟩=some (.bool nb):=by simp[a1,go_sem]
 have g3:w1.cell? ⟨w.heap.size+1,1,none⟩=some (.slice B m d):=by simp[a1,go_sem]
 have bq:Hid (Blk w1 (w.heap.size+1+1) 39 #[.bool false,.slice none 0 0]):=by
  refine Zd a0 (Blk.alloc (Blk.alloc ?_ _) _);have:=Qd ((w.alloc (.cells #[.bool na,.slice A n c] 39)).alloc (.cells #[.bool nb,.slice B m d] 39)) 39 #[.bool false,.slice none 0 0];simp only[Qc]at this;exact this
 have br:Hid (Blk w1 (w.heap.size+1+1+1) 39 #[.bool false,.slice none 0 0]):=by
  refine Zd a0 (Blk.alloc ?_ _);have:=Qd (((w.alloc (.cells #[.bool na,.slice A n c] 39)).alloc (.cells #[.bool nb,.slice B m d] 39)).alloc (.cells #[.bool false,.slice none 0 0] 39)) 39 #[.bool false,.slice none 0 0];simp only[Qc]at this;exact this
 have d5:=d3.below a4;have d4:=a2.below a4;clear a1 e6;go_wp2_with fail;refine(Zgv _ _ _ _ _ _ U V _ d5 d4 (by omega) a7).mono ?_;rintro e w2 ⟨A2,n2,c2,B2,m2,d2,rfl,f3,a6,O⟩;have d0:Below w.heap.size w w2:=a4.trans (O.mono a4.size);have d8:=a6.2.2.1;have g7:=a6.2.1;unfold maxLen at d8;have e5:=Zb O g0;have e7:=Zb O g1;have f6:=Zb O g2;have f7:=Zb O g3;have e3:Hid (Blk _ _ _ _):=Zd O bq.out;have f4:Hid (Blk _ _ _ _):=Zd O br.out
 have g5:m2=0:=by
  rcases Qh m2 with h|h;exact h;rw[<- a6.len]at h;have:=length_digits_pos.1 h;have:=hy.out;omega
 subst g5;go_wp2_with fail;refine(Zb5 _ _ _ _ _ _ f3).mono ?_;rintro e w5 ⟨I,f,A5,n5,c5,b8,rfl,b0⟩;have f8:Below w.heap.size w w5:=d0.trans (I.mono d0.size);have g8:=Zb I e5;have h4:=Zb I e7;have h3:=Zb I f6;have h5:=Zb I f7;have C:Hid (Blk _ _ _ _):=Zd I e3.out;have f0:Hid (Blk _ _ _ _):=Zd I f4.out;change ResP w5 (sg (na != nb) _) f A5 n5 c5 b8 at b0;rw[Zi,<- a3.out]at b0;rcases b0 with ⟨-,rfl,a5⟩|⟨c6,-⟩
 case inr=>exact absurd d6 (by omega)
 have q1:=C.out.cell 0;have q2:=C.out.cell 1;have q3:=C.out.frozen 0;have q4:=C.out.frozen 1;simp at q1 q2;go_wp2_with fail;generalize hw6:(w5.setCell ⟨w.heap.size+1+1,0,none⟩ (.bool f)).setCell ⟨w.heap.size+1+1,1,none⟩ (.slice A5 n5 c5)=w6;have e1:Hid (Blk w6 (w.heap.size+1+1) 39 #[.bool f,.slice A5 n5 c5]):=by rw[<- hw6];exact(C.out.set_ 0 _).set_ 1 _
 have e0:Hid (Blk w6 (w.heap.size+1+1+1) 39 #[.bool false,.slice none 0 0]):=by rw[<- hw6];exact(f0.out.far (by simp <;> omega) _).far (by simp <;> omega) _
 have d9:Below w.heap.size w w6:=by rw[<- hw6];exact(f8.setCell (p:=⟨w.heap.size+1+1,0,none⟩) (by simp <;> omega) _).setCell (p:=⟨w.heap.size+1+1,1,none⟩) (by simp <;> omega) _
 have e4:Wd w6 f A5 n5 c5 ZQ:=by
  rw[<- hw6];exact⟨a5.1,a5.2.1,Lim.set_box (Lim.set_box a5.2.2 C.out (NoLimb.box _ _ _ _) 0 _) (C.out.set_ 0 _) (NoLimb.box _ _ _ _) 1 _⟩
 have c9:Lim w6 B2 0 d2 (digits (U%V)):=by
  rw[<- hw6];exact Lim.set_box (Lim.set_box (a6.below I) C.out (NoLimb.box _ _ _ _) 0 _) (C.out.set_ 0 _) (NoLimb.box _ _ _ _) 1 _
 clear hw6 q1 q2 q3 q4 a5;refine(Zb5 _ _ _ _ _ _ c9).mono ?_;rintro e w7 ⟨a8,o,A7,n7,c7,f5,rfl,d7⟩;have g4:Below w.heap.size w w7:=d9.trans (a8.mono d9.size);have e2:Hid (Blk w7 (w.heap.size+1+1) 39 #[.bool f,.slice A5 n5 c5]):=Zd a8 e1.out;have u:Hid (Blk w7 (w.heap.size+1+1+1) 39 #[.bool false,.slice none 0 0]):=Zd a8 e0.out;rw[Zi,<- T.out]at d7;rcases d7 with ⟨-,rfl,c3⟩|⟨c6,-⟩
 case inr=>exact absurd c8 (by omega)
 have r1:=u.out.cell 0;have r2:=u.out.cell 1;have r3:=u.out.frozen 0;have r4:=u.out.frozen 1;simp at r1 r2;go_wp2_with fail;generalize hw8:(w7.setCell ⟨w.heap.size+1+1+1,0,none⟩ (.bool o)).setCell ⟨w.heap.size+1+1+1,1,none⟩ (.slice A7 n7 c7)=w8;have y:Blk w8 (w.heap.size+1+1) 39 #[.bool f,.slice A5 n5 c5]:=by rw[<- hw8];exact(e2.out.far (by simp <;> omega) _).far (by simp <;> omega) _
 have J:Blk w8 (w.heap.size+1+1+1) 39 #[.bool o,.slice A7 n7 c7]:=by rw[<- hw8];exact(u.out.set_ 0 _).set_ 1 _
 have e9:Below w.heap.size w w8:=by rw[<- hw8];exact(g4.setCell (p:=⟨w.heap.size+1+1+1,0,none⟩) (by simp <;> omega) _).setCell (p:=⟨w.heap.size+1+1+1,1,none⟩) (by simp <;> omega) _
 have b9:Wd w8 f A5 n5 c5 ZQ:=by
  rw[<- hw8];have b7:=e4.below a8;exact⟨b7.1,b7.2.1,Lim.set_box (Lim.set_box b7.2.2 u.out (NoLimb.box _ _ _ _) 0 _) (u.out.set_ 0 _) (NoLimb.box _ _ _ _) 1 _⟩
 have c0:Wd w8 o A7 n7 c7 ZR:=by
  rw[<- hw8];exact⟨c3.1,c3.2.1,Lim.set_box (Lim.set_box c3.2.2 u.out (NoLimb.box _ _ _ _) 0 _) (u.out.set_ 0 _) (NoLimb.box _ _ _ _) 1 _⟩
 have s1:=y.cell 0;have s2:=y.cell 1;have s3:=y.frozen 0;have s4:=y.frozen 1;have s5:=J.cell 0;have s6:=J.cell 1;have s7:=J.frozen 0;have s8:=J.frozen 1;simp at s1 s2 s5 s6;replace y:=Za y;replace J:=Za J;clear hw8 r1 r2 r3 r4
 go_region
 go_wp2
 generalize hw9:((((w8.setCell ⟨w.heap.size+1+1,0,none⟩ (.bool f)).setCell ⟨w.heap.size+1+1,1,none⟩ (.slice A5 n5 c5)).setCell ⟨w.heap.size+1+1+1,0,none⟩ (.bool o)).setCell ⟨w.heap.size+1+1+1,1,none⟩ (.slice A7 n7 c7)).drew=w9;have b1:=(y.out.set_ 0 (.bool f)).set_ 1 (.slice A5 n5 c5);have b2:=(J.out.far (p:=⟨w.heap.size+1+1,0,none⟩) (by simp <;> omega) (.bool f)).far (p:=⟨w.heap.size+1+1,1,none⟩) (by simp <;> omega) (.slice A5 n5 c5);have b3:Blk w9 (w.heap.size+1+1) 39 #[.bool f,.slice A5 n5 c5]:=by rw[<- hw9];exact(b1.far (by simp <;> omega) _).far (by simp <;> omega) _
 have b4:Blk w9 (w.heap.size+1+1+1) 39 #[.bool o,.slice A7 n7 c7]:=by rw[<- hw9];exact(b2.set_ 0 _).set_ 1 _
 have e8:Below w.heap.size w w9:=by rw[<- hw9];exact Zf ((((e9.setCell (p:=⟨w.heap.size+1+1,0,none⟩) (by simp <;> omega) _).setCell (p:=⟨w.heap.size+1+1,1,none⟩) (by simp <;> omega) _).setCell (p:=⟨w.heap.size+1+1+1,0,none⟩) (by simp <;> omega) _).setCell (p:=⟨w.heap.size+1+1+1,1,none⟩) (by simp <;> omega) _) 1
 have a9:∀ (A:Option Addr) (n c:Nat) (l:List Nat),Lim w8 A n c l->Lim w9 A n c l:=λA n c l h=>by
  rw[<- hw9];exact Lim.set_box (Lim.set_box (Lim.set_box (Lim.set_box h y.out (NoLimb.box _ _ _ _) 0 _) (y.out.set_ 0 _) (NoLimb.box _ _ _ _) 1 _) b2 (NoLimb.box _ _ _ _) 0 _) (b2.set_ 0 _) (NoLimb.box _ _ _ _) 1 _
 have t1:=b3.cell 0;have t2:=b3.cell 1;have t3:=b4.cell 0;have t4:=b4.cell 1;simp at t1 t2 t3 t4;refine bodyPost_ret (v:=.tuple #[.agg #[.bool f,.slice A5 n5 c5],.agg #[.bool o,.slice A7 n7 c7],.int .i64 0]) (by simp[results,Tryz.results184,go_sem,t1,t2,t3,t4]) rfl ?_;exact hfin.out _ _ ⟨e8,_,_,_,_,_,_,_,_,rfl,⟨b9.1,b9.2.1,a9 _ _ _ _ b9.2.2⟩,⟨c0.1,c0.2.1,a9 _ _ _ _ c0.2.2⟩⟩
theorem Zrl(na nb:Bool)(A B:Option Addr)(n c m d:Nat)(za zb:Int)(w:World)(ha:Wd w na A n c za)(hb:Wd w nb B m d zb)(h0:zb≠0)(hy:0<za.natAbs%zb.natAbs)(hs:na=nb) :
    Calls Tryz.prog 184 #[.agg #[.bool na,.slice A n c],.agg #[.bool nb,.slice B m d]] w (Zjl w za zb):=by
 have d3:=ha.lim;have a2:=hb.lim;have hn:=ha.2.1;have hm:=hb.2.1;have g5:=a2.2.2.1;have h1:=a2.2.1;unfold maxLen at g5;have c3:∀ X Y Z V U:Obj,Below w.heap.size w (((((w.alloc X).alloc Y).alloc Z).alloc V).alloc U):=λX Y Z V U=>(((((Qb w.heap.size w).alloc (Qa _) _).alloc (by simp) _).alloc (by simp;omega) _).alloc (by simp;omega) _).alloc (by simp;omega) _
 have hW:∀ X Y Z V t,WL (((((w.alloc X).alloc Y).alloc Z).alloc V).alloc (.cells #[.bool na,.slice A n c,.bool nb,.slice B m d] t)) (some ⟨w.heap.size+1+1+1+1,0,none⟩) 2 2 [⟨na,A,n,c,digits za.natAbs⟩,⟨nb,B,m,d,digits zb.natAbs⟩]:=λX Y Z V t=>by
  have:=WL.two (neg:=na) (neg':=nb) ((((d3.alloc X).alloc Y).alloc Z).alloc V) ((((a2.alloc X).alloc Y).alloc Z).alloc V) t;simp only[Qc]at this;exact this
 have hW:=Za hW;have c3:=Za c3;have b5:Hid (okW na (digits za.natAbs)=true/\okW nb (digits zb.natAbs)=true):=⟨ha.ok,hb.ok⟩;have c0:=ha.sgEq;have b6:=hb.sgEq;rw[Zi]at c0 b6;have hU:=ha.small;have hV:=hb.small;clear ha hb;have a7:0<zb.natAbs:=by omega
 have h3:0<m:=by rw[<- a2.len];exact length_digits_pos.2 a7
 have g7:((m:Int) == 0)=false:=by simp;omega
 obtain⟨a3,T⟩:=Zhu na nb za.natAbs zb.natAbs a7 (Or.inr hs);rw[c0,b6]at a3 T;clear c0 b6 h0;generalize za.natAbs=U at *;generalize zb.natAbs=V at *;have d6:(sg (na != nb) (U/V)).natAbs<pw 4096:=by rw[Z4];exact Qw (Qs _ _) hU
 have c6:(sg nb (U%V)).natAbs<pw 4096:=by rw[Z4];exact Qv (Qe _ a7) hV
 rw[<- a3]at d6;rw[<- T]at c6;have hfin:Hid (∀ (e:Ending) (w':World),(Below w.heap.size w w'/\∃ nq Aq kq cq nr Ar kr cr,e=.returned (.tuple #[.agg #[.bool nq,.slice Aq kq cq],.agg #[.bool nr,.slice Ar kr cr],.int .i64 0])/\Wd w' nq Aq kq cq (Qk za zb)/\Wd w' nr Ar kr cr (Ql za zb))->Zjl w za zb e w'):=λ_ _ h=>h;generalize Qk za zb=ZQ at *;generalize Ql za zb=ZR at *;replace a3:=Za a3;replace T:=Za T;subst hs;have f7:(na != na)=false:=by simp
 go_enter Tryz.func184,Tryz.ntmps184;go_wp2_with fail;refine(Zdt (hW.out _ _ _ _ _) (by have:=b5.out;simp[WE.ok,this])).mono ?_;rintro e w1 ⟨rfl,a0⟩;obtain⟨a1,e6⟩:=Zcp a0;have h2:w.heap.size+1+1+1+1<w1.heap.size:=by have:=a0.size;simp at this;omega
 have a4:Below w.heap.size w w1:=(c3.out _ _ _ _ _).trans (a0.mono (by simp;omega));have g0:w1.cell? ⟨w.heap.size,0,none⟩=some (.bool na):=by simp[a1,go_sem]
 have g1:w1.cell? ⟨w.heap.size,1,none⟩=some (.slice A n c):=by simp[a1,go_sem]
 have g2:w1.cell? ⟨w.heap.size+1,0,none⟩=some (.bool na):=by simp[a1,go_sem]
 have g3:w1.cell? ⟨w.heap.size+1,1,none⟩=some (.slice B m d):=by simp[a1,go_sem]
 have bq:Hid (Blk w1 (w.heap.size+1+1) 39 #[.bool false,.slice none 0 0]):=by
  refine Zd a0 (Blk.alloc (Blk.alloc ?_ _) _);have:=Qd ((w.alloc (.cells #[.bool na,.slice A n c] 39)).alloc (.cells #[.bool na,.slice B m d] 39)) 39 #[.bool false,.slice none 0 0];simp only[Qc]at this;exact this
 have br:Hid (Blk w1 (w.heap.size+1+1+1) 39 #[.bool false,.slice none 0 0]):=by
  refine Zd a0 (Blk.alloc ?_ _);have:=Qd (((w.alloc (.cells #[.bool na,.slice A n c] 39)).alloc (.cells #[.bool na,.slice B m d] 39)).alloc (.cells #[.bool false,.slice none 0 0] 39)) 39 #[.bool false,.slice none 0 0];simp only[Qc]at this;exact this
 have d5:=d3.below a4;have d4:=a2.below a4;clear a1 e6;go_wp2_with fail;refine(Zgv _ _ _ _ _ _ U V _ d5 d4 (by omega) a7).mono ?_;rintro e w2 ⟨A2,n2,c2,B2,m2,d2,rfl,f4,a6,O⟩;have d0:Below w.heap.size w w2:=a4.trans (O.mono a4.size);have d8:=a6.2.2.1;have g8:=a6.2.1;unfold maxLen at d8;have e5:=Zb O g0;have e7:=Zb O g1;have f8:=Zb O g2;have f9:=Zb O g3;have e3:Hid (Blk _ _ _ _):=Zd O bq.out;have f5:Hid (Blk _ _ _ _):=Zd O br.out;have h7:0<m2:=by rw[<- a6.len];exact length_digits_pos.2 hy
 go_wp2_with fail;refine(Zb5 _ _ _ _ _ _ f4).mono ?_;rintro e w5 ⟨I,f,A5,n5,c5,e8,rfl,c8⟩;have g4:Below w.heap.size w w5:=d0.trans (I.mono d0.size);have g9:=Zb I e5;have h5:=Zb I e7;have h4:=Zb I f8;have h6:=Zb I f9;have C:Hid (Blk _ _ _ _):=Zd I e3.out;have f3:Hid (Blk _ _ _ _):=Zd I f5.out;have a9:=a3.out;rw[f7]at a9;rw[Zi,<- a9]at c8;rcases c8 with ⟨-,rfl,a5⟩|⟨c4,-⟩
 case inr=>exact absurd d6 (by omega)
 have q1:=C.out.cell 0;have q2:=C.out.cell 1;have q3:=C.out.frozen 0;have q4:=C.out.frozen 1;simp at q1 q2;go_wp2_with fail;generalize hw6:(w5.setCell ⟨w.heap.size+1+1,0,none⟩ (.bool f)).setCell ⟨w.heap.size+1+1,1,none⟩ (.slice A5 n5 c5)=w6;have e1:Hid (Blk w6 (w.heap.size+1+1) 39 #[.bool f,.slice A5 n5 c5]):=by rw[<- hw6];exact(C.out.set_ 0 _).set_ 1 _
 have e0:Hid (Blk w6 (w.heap.size+1+1+1) 39 #[.bool false,.slice none 0 0]):=by rw[<- hw6];exact(f3.out.far (by simp <;> omega) _).far (by simp <;> omega) _
 have d9:Below w.heap.size w w6:=by rw[<- hw6];exact(g4.setCell (p:=⟨w.heap.size+1+1,0,none⟩) (by simp <;> omega) _).setCell (p:=⟨w.heap.size+1+1,1,none⟩) (by simp <;> omega) _
 have e4:Wd w6 f A5 n5 c5 ZQ:=by
  rw[<- hw6];exact⟨a5.1,a5.2.1,Lim.set_box (Lim.set_box a5.2.2 C.out (NoLimb.box _ _ _ _) 0 _) (C.out.set_ 0 _) (NoLimb.box _ _ _ _) 1 _⟩
 have c9:Lim w6 B2 m2 d2 (digits (U%V)):=by
  rw[<- hw6];exact Lim.set_box (Lim.set_box (a6.below I) C.out (NoLimb.box _ _ _ _) 0 _) (C.out.set_ 0 _) (NoLimb.box _ _ _ _) 1 _
 clear hw6 q1 q2 q3 q4 a5;refine(Zb5 _ _ _ _ _ _ c9).mono ?_;rintro e w7 ⟨a8,o,A7,n7,c7,f6,rfl,d7⟩;have g6:Below w.heap.size w w7:=d9.trans (a8.mono d9.size);have e2:Hid (Blk w7 (w.heap.size+1+1) 39 #[.bool f,.slice A5 n5 c5]):=Zd a8 e1.out;have u:Hid (Blk w7 (w.heap.size+1+1+1) 39 #[.bool false,.slice none 0 0]):=Zd a8 e0.out;rw[Zi,<- T.out]at d7;rcases d7 with ⟨-,rfl,c1⟩|⟨c4,-⟩
 case inr=>exact absurd c6 (by omega)
 have r1:=u.out.cell 0;have r2:=u.out.cell 1;have r3:=u.out.frozen 0;have r4:=u.out.frozen 1;simp at r1 r2;go_wp2_with fail;generalize hw8:(w7.setCell ⟨w.heap.size+1+1+1,0,none⟩ (.bool o)).setCell ⟨w.heap.size+1+1+1,1,none⟩ (.slice A7 n7 c7)=w8;have y:Blk w8 (w.heap.size+1+1) 39 #[.bool f,.slice A5 n5 c5]:=by rw[<- hw8];exact(e2.out.far (by simp <;> omega) _).far (by simp <;> omega) _
 have J:Blk w8 (w.heap.size+1+1+1) 39 #[.bool o,.slice A7 n7 c7]:=by rw[<- hw8];exact(u.out.set_ 0 _).set_ 1 _
 have f0:Below w.heap.size w w8:=by rw[<- hw8];exact(g6.setCell (p:=⟨w.heap.size+1+1+1,0,none⟩) (by simp <;> omega) _).setCell (p:=⟨w.heap.size+1+1+1,1,none⟩) (by simp <;> omega) _
 have b8:Wd w8 f A5 n5 c5 ZQ:=by
  rw[<- hw8];have b7:=e4.below a8;exact⟨b7.1,b7.2.1,Lim.set_box (Lim.set_box b7.2.2 u.out (NoLimb.box _ _ _ _) 0 _) (u.out.set_ 0 _) (NoLimb.box _ _ _ _) 1 _⟩
 have b9:Wd w8 o A7 n7 c7 ZR:=by
  rw[<- hw8];exact⟨c1.1,c1.2.1,Lim.set_box (Lim.set_box c1.2.2 u.out (NoLimb.box _ _ _ _) 0 _) (u.out.set_ 0 _) (NoLimb.box _ _ _ _) 1 _⟩
 have s1:=y.cell 0;have s2:=y.cell 1;have s3:=y.frozen 0;have s4:=y.frozen 1;have s5:=J.cell 0;have s6:=J.cell 1;have s7:=J.frozen 0;have s8:=J.frozen 1;simp at s1 s2 s5 s6;replace y:=Za y;replace J:=Za J;clear hw8 r1 r2 r3 r4
 go_region
 go_wp2
 generalize hw9:((((w8.setCell ⟨w.heap.size+1+1,0,none⟩ (.bool f)).setCell ⟨w.heap.size+1+1,1,none⟩ (.slice A5 n5 c5)).setCell ⟨w.heap.size+1+1+1,0,none⟩ (.bool o)).setCell ⟨w.heap.size+1+1+1,1,none⟩ (.slice A7 n7 c7)).drew=w9;have b1:=(y.out.set_ 0 (.bool f)).set_ 1 (.slice A5 n5 c5);have b2:=(J.out.far (p:=⟨w.heap.size+1+1,0,none⟩) (by simp <;> omega) (.bool f)).far (p:=⟨w.heap.size+1+1,1,none⟩) (by simp <;> omega) (.slice A5 n5 c5);have b3:Blk w9 (w.heap.size+1+1) 39 #[.bool f,.slice A5 n5 c5]:=by rw[<- hw9];exact(b1.far (by simp <;> omega) _).far (by simp <;> omega) _
 have b4:Blk w9 (w.heap.size+1+1+1) 39 #[.bool o,.slice A7 n7 c7]:=by rw[<- hw9];exact(b2.set_ 0 _).set_ 1 _
 have e9:Below w.heap.size w w9:=by rw[<- hw9];exact Zf ((((f0.setCell (p:=⟨w.heap.size+1+1,0,none⟩) (by simp <;> omega) _).setCell (p:=⟨w.heap.size+1+1,1,none⟩) (by simp <;> omega) _).setCell (p:=⟨w.heap.size+1+1+1,0,none⟩) (by simp <;> omega) _).setCell (p:=⟨w.heap.size+1+1+1,1,none⟩) (by simp <;> omega) _) 1
 have b0:∀ (A:Option Addr) (n c:Nat) (l:List Nat),Lim w8 A n c l->Lim w9 A n c l:=λA n c l h=>by
  rw[<- hw9];exact Lim.set_box (Lim.set_box (Lim.set_box (Lim.set_box h y.out (NoLimb.box _ _ _ _) 0 _) (y.out.set_ 0 _) (NoLimb.box _ _ _ _) 1 _) b2 (NoLimb.box _ _ _ _) 0 _) (b2.set_ 0 _) (NoLimb.box _ _ _ _) 1 _
 have t1:=b3.cell 0;have t2:=b3.cell 1;have t3:=b4.cell 0;have t4:=b4.cell 1;simp at t1 t2 t3 t4;refine bodyPost_ret (v:=.tuple #[.agg #[.bool f,.slice A5 n5 c5],.agg #[.bool o,.slice A7 n7 c7],.int .i64 0]) (by simp[results,Tryz.results184,go_sem,t1,t2,t3,t4]) rfl ?_;exact hfin.out _ _ ⟨e9,_,_,_,_,_,_,_,_,rfl,⟨b8.1,b8.2.1,b0 _ _ _ _ b8.2.2⟩,⟨b9.1,b9.2.1,b0 _ _ _ _ b9.2.2⟩⟩
theorem Zo7(na nb:Bool)(A B:Option Addr)(n c m d:Nat)(za zb:Int)(w:World)(ha:Wd w na A n c za)(hb:Wd w nb B m d zb)(h0:zb≠0)(hy:0<za.natAbs%zb.natAbs)(hs:na≠nb) :
    Calls Tryz.prog 184 #[.agg #[.bool na,.slice A n c],.agg #[.bool nb,.slice B m d]] w (Zjl w za zb):=by
 have d0:=ha.lim;have a1:=hb.lim;have hn:=ha.2.1;have hm:=hb.2.1;have j9:=a1.2.2.1;have k7:=a1.2.1;unfold maxLen at j9;have d7:∀ X Y Z V U:Obj,Below w.heap.size w (((((w.alloc X).alloc Y).alloc Z).alloc V).alloc U):=λX Y Z V U=>(((((Qb w.heap.size w).alloc (Qa _) _).alloc (by simp) _).alloc (by simp;omega) _).alloc (by simp;omega) _).alloc (by simp;omega) _
 have hW:∀ X Y Z V t,WL (((((w.alloc X).alloc Y).alloc Z).alloc V).alloc (.cells #[.bool na,.slice A n c,.bool nb,.slice B m d] t)) (some ⟨w.heap.size+1+1+1+1,0,none⟩) 2 2 [⟨na,A,n,c,digits za.natAbs⟩,⟨nb,B,m,d,digits zb.natAbs⟩]:=λX Y Z V t=>by
  have:=WL.two (neg:=na) (neg':=nb) ((((d0.alloc X).alloc Y).alloc Z).alloc V) ((((a1.alloc X).alloc Y).alloc Z).alloc V) t;simp only[Qc]at this;exact this
 have hW:=Za hW;have d7:=Za d7;have c0:Hid (okW na (digits za.natAbs)=true/\okW nb (digits zb.natAbs)=true):=⟨ha.ok,hb.ok⟩;have d5:=ha.sgEq;have c6:=hb.sgEq;rw[Zi]at d5 c6;have hU:=ha.small;have hV:=hb.small;clear ha hb;have a2:0<zb.natAbs:=by omega
 have k9:0<m:=by rw[<- a1.len];exact length_digits_pos.2 a2
 have k4:((m:Int) == 0)=false:=by simp;omega
 obtain⟨a8,a3⟩:=Zns na nb za.natAbs zb.natAbs a2 hy hs;rw[d5,c6]at a8 a3;clear d5 c6 h0;generalize za.natAbs=U at *;generalize zb.natAbs=V at *
 have e9:(sg (na != nb) (U/V+1)).natAbs<pw 4096:=by
  rw[Z4];have h1:=Qr U V;have h2:=Qe U a2;rcases Qg 1 V with h|h
  ·have:U/V+U/V<=V*(U/V):=by rw[<- Nat.two_mul];exact Qf _ h
   omega
  omega
 have e0:(sg nb (V-U%V)).natAbs<pw 4096:=by rw[Z4];omega
 rw[<- a8]at e9;rw[<- a3]at e0;have hfin:Hid (∀ (e:Ending) (w':World),(Below w.heap.size w w'/\∃ nq Aq kq cq nr Ar kr cr,e=.returned (.tuple #[.agg #[.bool nq,.slice Aq kq cq],.agg #[.bool nr,.slice Ar kr cr],.int .i64 0])/\Wd w' nq Aq kq cq (Qk za zb)/\Wd w' nr Ar kr cr (Ql za zb))->Zjl w za zb e w'):=λ_ _ h=>h;generalize Qk za zb=ZQ at *;generalize Ql za zb=ZR at *;replace a8:=Za a8;replace a3:=Za a3;have a7:(na != nb)=true:=by simpa using hs
 have l2:(na == nb)=false:=by simpa using hs
 replace a7:=Za a7;go_enter Tryz.func184,Tryz.ntmps184;go_wp2_with fail;refine(Zdt (hW.out _ _ _ _ _) (by have:=c0.out;simp[WE.ok,this])).mono ?_;rintro e w1 ⟨rfl,a4⟩;obtain⟨a5,h9⟩:=Zcp a4;have k8:w.heap.size+1+1+1+1<w1.heap.size:=by have:=a4.size;simp at this;omega
 have a9:Below w.heap.size w w1:=(d7.out _ _ _ _ _).trans (a4.mono (by simp;omega));have g0:w1.cell? ⟨w.heap.size,0,none⟩=some (.bool na):=by simp[a5,go_sem]
 have g1:w1.cell? ⟨w.heap.size,1,none⟩=some (.slice A n c):=by simp[a5,go_sem]
 have g2:w1.cell? ⟨w.heap.size+1,0,none⟩=some (.bool nb):=by simp[a5,go_sem]
 have g3:w1.cell? ⟨w.heap.size+1,1,none⟩=some (.slice B m d):=by simp[a5,go_sem]
 have bq:Hid (Blk w1 (w.heap.size+1+1) 39 #[.bool false,.slice none 0 0]):=by
  refine Zd a4 (Blk.alloc (Blk.alloc ?_ _) _);have:=Qd ((w.alloc (.cells #[.bool na,.slice A n c] 39)).alloc (.cells #[.bool nb,.slice B m d] 39)) 39 #[.bool false,.slice none 0 0];simp only[Qc]at this;exact this
 have br:Hid (Blk w1 (w.heap.size+1+1+1) 39 #[.bool false,.slice none 0 0]):=by
  refine Zd a4 (Blk.alloc ?_ _);have:=Qd (((w.alloc (.cells #[.bool na,.slice A n c] 39)).alloc (.cells #[.bool nb,.slice B m d] 39)).alloc (.cells #[.bool false,.slice none 0 0] 39)) 39 #[.bool false,.slice none 0 0];simp only[Qc]at this;exact this
 have e8:=d0.below a9;have e7:=a1.below a9;clear a5 h9;go_wp2_with fail;refine(Zgv _ _ _ _ _ _ U V _ e8 e7 (by omega) a2).mono ?_;rintro e w2 ⟨A2,n2,c2,B2,m2,d2,rfl,f4,a6,a0⟩;have c8:Below w.heap.size w w2:=a9.trans (a0.mono a9.size);have f5:=a6.2.2.1;have k5:=a6.2.1;unfold maxLen at f5;have h7:=Zb a0 g0;have i1:=Zb a0 g1;have j6:=Zb a0 g2;have j7:=Zb a0 g3;have h5:Hid (Blk _ _ _ _):=Zd a0 bq.out;have j1:Hid (Blk _ _ _ _):=Zd a0 br.out;have l6:0<m2:=by rw[<- a6.len];exact length_digits_pos.2 hy
 have e3:m2<=m:=by have:=Z2 (Qm (Qe U a2));rw[a6.len,a1.len]at this;exact this
 have k3:n2<=n:=by have:=Z2 (Qs U V);rw[f4.len,d0.len]at this;exact this
 have f7:∀ t,Lim (w2.alloc (.cells #[limb 1] t)) (some ⟨w2.heap.size,0,none⟩) 1 1 [1]:=λt=>by
  have:=Lim.of_blk (l:=[1]) (Qd w2 t (Zw [1])) (Lt32.cons (by decide) Lt32.nil) (by simp[maxLen]);exact this
 have i8:=Za f7;clear f7;go_wp2_with fail;refine(Zq6 _ _ _ _ _ _ _ _ _ (f4.alloc _) (i8.out _) (by omega) (by omega)).mono ?_;rintro e w3 ⟨A3,n3,c3,l3,rfl,j3,e2,e6⟩;have y:Below w2.heap.size w2 w3:=((Qb w2.heap.size w2).alloc (Qa _) _).trans (e6.mono (by simp));have d9:Below w.heap.size w w3:=c8.trans (y.mono c8.size);have c1:=e2.2;replace c1:=Za c1;clear e2;have k2:=Zb y h7;have i5:=Zb y i1;have h8:=Zb y j6;have g6:=Zb y j7;have g7:Hid (Blk _ _ _ _):=Zd y h5.out;have j0:Hid (Blk _ _ _ _):=Zd y j1.out;have g4:=(a1.below c8).below y;have f8:=a6.below y;have b7:val (digits (U%V))<=val (digits V):=by rw[Zi,Zi];exact Qm (Qe U a2)
 go_wp2_with fail;refine(Zjy _ _ _ _ _ _ _ _ _ g4 f8 e3 b7 (by omega)).mono ?_;rintro e w4 ⟨A4,n4,c4,l4,rfl,h3,f6,J⟩;have e5:Below w.heap.size w w4:=d9.trans (J.mono d9.size);have b9:=f6.2;replace b9:=Za b9;clear f6 b7;have f3:=j3.below J;have h4:=Zb J k2;have k0:=Zb J i5;have j2:=Zb J h8;have i2:=Zb J g6;have j5:Hid (Blk _ _ _ _):=Zd J g7.out;have i9:Hid (Blk _ _ _ _):=Zd J j0.out;go_wp2_with fail;refine(Zb5 _ _ _ _ _ _ f3).mono ?_;rintro e w5 ⟨O,f,A5,n5,c5,i3,rfl,e1⟩;have j8:Below w.heap.size w w5:=e5.trans (O.mono e5.size);have k6:=Zb O h4;have l1:=Zb O k0;have l0:=Zb O j2;have l5:=Zb O i2;have I:Hid (Blk _ _ _ _):=Zd O j5.out;have i7:Hid (Blk _ _ _ _):=Zd O i9.out;have i0:val l4=V-U%V:=by have:=b9.out;rw[Zi,Zi]at this;omega
 have b6:=a8.out;rw[a7.out]at b6;rw[c1.out,Zi,show val [1]=1 from rfl,<- b6]at e1;rcases e1 with ⟨-,rfl,b0⟩|⟨d8,-⟩
 case inr=>exact absurd e9 (by omega)
 have q1:=I.out.cell 0;have q2:=I.out.cell 1;have q3:=I.out.frozen 0;have q4:=I.out.frozen 1;simp at q1 q2;go_wp2_with fail;generalize hw6:(w5.setCell ⟨w.heap.size+1+1,0,none⟩ (.bool f)).setCell ⟨w.heap.size+1+1,1,none⟩ (.slice A5 n5 c5)=w6;have g8:Hid (Blk w6 (w.heap.size+1+1) 39 #[.bool f,.slice A5 n5 c5]):=by rw[<- hw6];exact(I.out.set_ 0 _).set_ 1 _
 have g5:Hid (Blk w6 (w.heap.size+1+1+1) 39 #[.bool false,.slice none 0 0]):=by rw[<- hw6];exact(i7.out.far (by simp <;> omega) _).far (by simp <;> omega) _
 have f9:Below w.heap.size w w6:=by rw[<- hw6];exact(j8.setCell (p:=⟨w.heap.size+1+1,0,none⟩) (by simp <;> omega) _).setCell (p:=⟨w.heap.size+1+1,1,none⟩) (by simp <;> omega) _
 have h6:Wd w6 f A5 n5 c5 ZQ:=by
  rw[<- hw6];exact⟨b0.1,b0.2.1,Lim.set_box (Lim.set_box b0.2.2 I.out (NoLimb.box _ _ _ _) 0 _) (I.out.set_ 0 _) (NoLimb.box _ _ _ _) 1 _⟩
 have e4:Lim w6 A4 n4 c4 l4:=by
  rw[<- hw6];exact Lim.set_box (Lim.set_box (h3.below O) I.out (NoLimb.box _ _ _ _) 0 _) (I.out.set_ 0 _) (NoLimb.box _ _ _ _) 1 _
 clear hw6 q1 q2 q3 q4 b0;refine(Zb5 _ _ _ _ _ _ e4).mono ?_;rintro e w7 ⟨b5,o,A7,n7,c7,j4,rfl,f0⟩;have k1:Below w.heap.size w w7:=f9.trans (b5.mono f9.size);have g9:Hid (Blk w7 (w.heap.size+1+1) 39 #[.bool f,.slice A5 n5 c5]):=Zd b5 g8.out;have u:Hid (Blk w7 (w.heap.size+1+1+1) 39 #[.bool false,.slice none 0 0]):=Zd b5 g5.out;rw[i0,<- a3.out]at f0;rcases f0 with ⟨-,rfl,d6⟩|⟨d8,-⟩
 case inr=>exact absurd e0 (by omega)
 have r1:=u.out.cell 0;have r2:=u.out.cell 1;have r3:=u.out.frozen 0;have r4:=u.out.frozen 1;simp at r1 r2;go_wp2_with fail;generalize hw8:(w7.setCell ⟨w.heap.size+1+1+1,0,none⟩ (.bool o)).setCell ⟨w.heap.size+1+1+1,1,none⟩ (.slice A7 n7 c7)=w8;have C:Blk w8 (w.heap.size+1+1) 39 #[.bool f,.slice A5 n5 c5]:=by rw[<- hw8];exact(g9.out.far (by simp <;> omega) _).far (by simp <;> omega) _
 have T:Blk w8 (w.heap.size+1+1+1) 39 #[.bool o,.slice A7 n7 c7]:=by rw[<- hw8];exact(u.out.set_ 0 _).set_ 1 _
 have i6:Below w.heap.size w w8:=by rw[<- hw8];exact(k1.setCell (p:=⟨w.heap.size+1+1+1,0,none⟩) (by simp <;> omega) _).setCell (p:=⟨w.heap.size+1+1+1,1,none⟩) (by simp <;> omega) _
 have d3:Wd w8 f A5 n5 c5 ZQ:=by
  rw[<- hw8];have c9:=h6.below b5;exact⟨c9.1,c9.2.1,Lim.set_box (Lim.set_box c9.2.2 u.out (NoLimb.box _ _ _ _) 0 _) (u.out.set_ 0 _) (NoLimb.box _ _ _ _) 1 _⟩
 have d4:Wd w8 o A7 n7 c7 ZR:=by
  rw[<- hw8];exact⟨d6.1,d6.2.1,Lim.set_box (Lim.set_box d6.2.2 u.out (NoLimb.box _ _ _ _) 0 _) (u.out.set_ 0 _) (NoLimb.box _ _ _ _) 1 _⟩
 have s1:=C.cell 0;have s2:=C.cell 1;have s3:=C.frozen 0;have s4:=C.frozen 1;have s5:=T.cell 0;have s6:=T.cell 1;have s7:=T.frozen 0;have s8:=T.frozen 1;simp at s1 s2 s5 s6;replace C:=Za C;replace T:=Za T;clear hw8 r1 r2 r3 r4
 go_region
 go_wp2
 generalize hw9:((((w8.setCell ⟨w.heap.size+1+1,0,none⟩ (.bool f)).setCell ⟨w.heap.size+1+1,1,none⟩ (.slice A5 n5 c5)).setCell ⟨w.heap.size+1+1+1,0,none⟩ (.bool o)).setCell ⟨w.heap.size+1+1+1,1,none⟩ (.slice A7 n7 c7)).drew=w9;have b1:=(C.out.set_ 0 (.bool f)).set_ 1 (.slice A5 n5 c5);have b2:=(T.out.far (p:=⟨w.heap.size+1+1,0,none⟩) (by simp <;> omega) (.bool f)).far (p:=⟨w.heap.size+1+1,1,none⟩) (by simp <;> omega) (.slice A5 n5 c5);have b3:Blk w9 (w.heap.size+1+1) 39 #[.bool f,.slice A5 n5 c5]:=by rw[<- hw9];exact(b1.far (by simp <;> omega) _).far (by simp <;> omega) _
 have b4:Blk w9 (w.heap.size+1+1+1) 39 #[.bool o,.slice A7 n7 c7]:=by rw[<- hw9];exact(b2.set_ 0 _).set_ 1 _
 have i4:Below w.heap.size w w9:=by rw[<- hw9];exact Zf ((((i6.setCell (p:=⟨w.heap.size+1+1,0,none⟩) (by simp <;> omega) _).setCell (p:=⟨w.heap.size+1+1,1,none⟩) (by simp <;> omega) _).setCell (p:=⟨w.heap.size+1+1+1,0,none⟩) (by simp <;> omega) _).setCell (p:=⟨w.heap.size+1+1+1,1,none⟩) (by simp <;> omega) _) 1
 have b8:∀ (A:Option Addr) (n c:Nat) (l:List Nat),Lim w8 A n c l->Lim w9 A n c l:=λA n c l h=>by
  rw[<- hw9];exact Lim.set_box (Lim.set_box (Lim.set_box (Lim.set_box h C.out (NoLimb.box _ _ _ _) 0 _) (C.out.set_ 0 _) (NoLimb.box _ _ _ _) 1 _) b2 (NoLimb.box _ _ _ _) 0 _) (b2.set_ 0 _) (NoLimb.box _ _ _ _) 1 _
 have t1:=b3.cell 0;have t2:=b3.cell 1;have t3:=b4.cell 0;have t4:=b4.cell 1;simp at t1 t2 t3 t4;refine bodyPost_ret (v:=.tuple #[.agg #[.bool f,.slice A5 n5 c5],.agg #[.bool o,.slice A7 n7 c7],.int .i64 0]) (by simp[results,Tryz.results184,go_sem,t1,t2,t3,t4]) rfl ?_;exact hfin.out _ _ ⟨i4,_,_,_,_,_,_,_,_,rfl,⟨d3.1,d3.2.1,b8 _ _ _ _ d3.2.2⟩,⟨d4.1,d4.2.1,b8 _ _ _ _ d4.2.2⟩⟩
theorem Zf1(na nb:Bool)(A B:Option Addr)(n c m d:Nat)(za zb:Int)(w:World)(ha:Wd w na A n c za)(hb:Wd w nb B m d zb)(h0:zb≠0) :
    Calls Tryz.prog 184 #[.agg #[.bool na,.slice A n c],.agg #[.bool nb,.slice B m d]] w (Zjl w za zb):=by
 rcases Qh (za.natAbs%zb.natAbs)with hy|hy;exact Zqw na nb A B n c m d za zb w ha hb h0 hy
 ·by_cases hs:na=nb
  exact Zrl na nb A B n c m d za zb w ha hb h0 hy hs;exact Zo7 na nb A B n c m d za zb w ha hb h0 hy hs
theorem Zly(neg:Bool)(A:Option Addr)(n c:Nat)(l:List Nat)(w:World)(h:Lim w A n c l) :
    Calls Tryz.prog 29 #[.agg #[.bool neg,.slice A n c]] w λe w'=>e=.returned (.int .i64 (Zfr (okW neg l)))/\Below w.heap.size w w':=by
 have C:=h.2.1;have o:=h.2.2.1;unfold maxLen at o;have HLen:=Za h.len;by_cases t1:n<=4096
 ·by_cases t2:0<n
  ·obtain⟨b1,o1,rfl,hx⟩:=h.at_ (k:=n-1) (by omega)
   have u:=Zo hx;have y:((n:Int) == 0)=false:=by simp;omega
   by_cases t3:l[n-1]?.getD 0=0
   ·have f:(((l[n-1]?.getD 0:Nat):Int) == 0)=true:=by simp[t3]
    rw[Zqm (by rw[HLen.out];exact t2) (by rw[HLen.out];exact t3)];clear t3 h;go_enter Tryz.func29,Tryz.ntmps29
    go_wp2
    go_ret;exact⟨rfl,(Qb _ _).alloc (Qa _) _⟩
   ·have f:(((l[n-1]?.getD 0:Nat):Int) == 0)=false:=by simpa using t3
    rw[Zxg (by rw[HLen.out];exact t2) (by rw[HLen.out];exact t1) (by rw[HLen.out];exact t3)];clear t3 h;cases neg
    all_goals
     go_enter Tryz.func29,Tryz.ntmps29
     go_wp2
     go_ret;exact⟨rfl,(Qb _ _).alloc (Qa _) _⟩
  ·obtain rfl:n=0:=by omega
   rw[Zoh HLen.out];clear h;cases neg
   all_goals
    go_enter Tryz.func29,Tryz.ntmps29
    go_wp2
    go_ret;exact⟨rfl,(Qb _ _).alloc (Qa _) _⟩
 ·rw[Zt0 (by rw[HLen.out];omega)]
  clear h;go_enter Tryz.func29,Tryz.ntmps29
  go_wp2
  go_ret;exact⟨rfl,(Qb _ _).alloc (Qa _) _⟩
theorem Zd2(A:Option Addr)(n c:Nat)(l:List Nat)(w:World)(h:Lim w A n c l)(hn9:n<=1000000000) :
    Calls Tryz.prog 123 #[.slice A n c] w (OutL w λl'=>l'=digits (val l)):=by
 obtain⟨i0,hi,C,y,u⟩:=info_parts Zc9;have hn:=h.2.1;have hm:=h.2.2.1;unfold maxLen at hm;go_enter Tryz.func123,Tryz.ntmps123
 go_wp2
 go_loop [3] (λv=>∃ k:Nat,k<=n/\v=.int .i64 k/\Hid (∀ j,k<=j->l[j]?.getD 0=0)) (λv=>(intOf v).toNat)
 case atStart=>exact⟨n,Qa _,rfl,λj hj=>by rw[List.getElem?_eq_none (by rw[h.len];exact hj)];rfl⟩
 case round =>
  obtain⟨k,hk,rfl,hz⟩:=hrel;by_cases hk0:0<k
  ·obtain⟨b,o,rfl,J⟩:=h.at_ (k:=k-1) (by omega)
   by_cases hx:l[k-1]?.getD 0=0
   ·have hb:(((l[k-1]?.getD 0:Nat):Int) == 0)=true:=by simp[hx]
    clear h;have hx:=Za hx
    go_wp2
    go_round
    case rel=>exact⟨k-1,by omega,by go_num,λj hj=>by
        rcases Qg j k with h'|h'
        ·obtain rfl:j=k-1:=by omega
         exact hx.out
        ·exact hz.out j h'⟩
    case measure=>simp[intOf];omega
   ·have hb:(((l[k-1]?.getD 0:Nat):Int) == 0)=false:=by simpa using hx
    have HD:=Za (Zgn hz.out (Or.inr hx) h.lt);clear hx;go_wp2_with (at_builtin;refine Zv _ rfl (.tmp 18) (.tmp 21) 37 rfl w.heap.size 106 i0 _ 1 4 Tryz.underlying37 hi C y u rfl (by omega) (.slice (some ⟨w.heap.size,0,none⟩) 0 0) 0 [] rfl (Zkf _ _ _) _ _ k c ((l.take k).map limb) rfl (by exact((h.take hk).alloc _).reads) (Zea _) (by simp only[maxLen];omega) (by omega) (by simp) ?_;intro v1 w1 e f I);go_ret;exact OutL.of_append e (by rw[Qj,h.len];omega) (h.lt.take _) ((Qb _ _).alloc (Qa _) _) f (λj hj=>by simp[Value.ownBlock]at hj;omega) HD.out.symm
  ·obtain rfl:k=0:=by omega
   have HD:=Za (Zgn hz.out (Or.inl rfl) h.lt);go_wp2_with (at_builtin;refine Zv _ rfl (.tmp 18) (.tmp 21) 37 rfl w.heap.size 106 i0 _ 1 4 Tryz.underlying37 hi C y u rfl (by omega) (.slice (some ⟨w.heap.size,0,none⟩) 0 0) 0 [] rfl (Zkf _ _ _) _ _ 0 c ((l.take 0).map limb) rfl (by exact((h.take hk).alloc _).reads) (Zea _) (by simp only[maxLen];omega) (by omega) (by simp) ?_;intro v1 w1 e f I);go_ret;exact OutL.of_append e (by rw[Qj,h.len];omega) (h.lt.take _) ((Qb _ _).alloc (Qa _) _) f (λj hj=>by simp[Value.ownBlock]at hj;omega) HD.out.symm
theorem Zbm(neg:Bool)(A:Option Addr)(n c:Nat)(l:List Nat)(w:World)(h:Lim w A n c l)(hn9:n<=1000000000) :
    Calls Tryz.prog 74 #[.bool neg,.slice A n c] w (ResW w (sg neg (val l))):=by
 have HI:=Za (Zs (val l) 4096);have HP:=Za (@length_digits_pos (val l));go_enter Tryz.func74,Tryz.ntmps74;go_wp2_with fail;refine(Zd2 _ _ _ _ _ (h.alloc _) hn9).mono ?_;rintro e w1 ⟨A1,n1,c1,l1,rfl,hL,C,u⟩;subst C;have f:=Za hL.len;have J:=hL.2.1;have I:=hL.2.2.1;unfold maxLen at I;have y:=Qd w 39 #[.bool false,.slice none 0 0];have m7:=Zd u y;have o:Below w.heap.size w w1:=((Qb w.heap.size w).alloc (Qa _) _).trans (u.mono (by simp));have m3:=m7.cell 0;have m4:=m7.cell 1;have m5:=m7.frozen 0;have m6:=m7.frozen 1;simp at m3 m4;have HM:=Za m7;clear m7 y;by_cases h1:n1<=4096
 ·by_cases h2:0<n1
  ·have hd:decide (0<n1)=true:=by simpa using h2
   cases neg
   ·go_wp2_with fail
    refine bodyPost_ret (v:=.tuple #[.agg #[.bool false,.slice A1 n1 c1],.int .i64 0]) (by simp[results,Tryz.results74,go_sem,m3,m4]) rfl ?_;refine ResW.box (.inl ⟨?_,rfl,?_,h1,?_⟩) o (Qa _) HM.out;rw[Z4];exact HI.out.1 (by rw[f.out];exact h1);rw[Zl3];rfl;rw[Z4];exact hL
   ·go_wp2_with fail
    refine bodyPost_ret (v:=.tuple #[.agg #[.bool true,.slice A1 n1 c1],.int .i64 0]) (by simp[results,Tryz.results74,go_sem,m3,m4]) rfl ?_;refine ResW.box (.inl ⟨?_,rfl,?_,h1,?_⟩) o (Qa _) HM.out;rw[Z4];exact HI.out.1 (by rw[f.out];exact h1);rw[Zl3];have:=HP.out.1 (by rw[f.out];exact h2);simp[this];rw[Z4];exact hL
  ·obtain rfl:n1=0:=by omega
   cases neg
   all_goals
    go_wp2_with fail;refine bodyPost_ret (v:=.tuple #[.agg #[.bool false,.slice A1 0 c1],.int .i64 0]) (by simp[results,Tryz.results74,go_sem,m3,m4]) rfl ?_;refine ResW.box (.inl ⟨?_,rfl,?_,h1,?_⟩) o (Qa _) HM.out;rw[Z4];exact HI.out.1 (by rw[f.out];exact h1)
    ·rw[Zl3]
     have:¬ 0<val l:=λhh=>by have:=HP.out.2 hh;rw[f.out]at this;omega
     simp[this]
    rw[Z4];exact hL
 ·have hp:pw 4096<=val l:=by
    rcases Qg (val l) (pw 4096)with h'|h';have:=HI.out.2 h';rw[f.out]at this;exact absurd this h1;exact h'
  have HPW:=Za hp;clear hp;go_wp2_with fail;refine bodyPost_ret (v:=.tuple #[.agg #[.bool false,.slice none 0 0],.int .i64 16]) (by simp[results,Tryz.results74,go_sem,m3,m4]) rfl ?_;exact ResW.box (.inr ⟨by rw[Z4];exact HPW.out,rfl,rfl,rfl,rfl,rfl⟩) o (Qa _) HM.out
theorem Zc7(A B:Option Addr)(n c m d:Nat)(a b:List Nat)(w:World)(ha:Lim w A n c a)(hb:Lim w B m d b) :
    Calls Tryz.prog 73 #[.slice A n c,.slice B m d] w λe w'=>e=.returned (.int .i64 (Zce a b))/\Below w.heap.size w w':=by
 have V:=ha.2.1;have J:=hb.2.1;have y:=ha.2.2.1;have C:=hb.2.2.1;unfold maxLen at y C;by_cases h1:n<m
 ·have f:(((n:Nat):Int) != m)=true:=by simp;omega
  have hd:decide (n<m)=true:=by simpa using h1
  have hr:Zce a b=-1:=by unfold Zce;rw[ha.len,hb.len,if_pos h1]
  rw[hr];go_enter Tryz.func73,Tryz.ntmps73
  go_wp2
  go_ret;exact⟨rfl,Qb _ _⟩
 by_cases h2:m<n
 ·have f:(((n:Nat):Int) != m)=true:=by simp;omega
  have hd:decide (n<m)=false:=by simpa using h1
  have hr:Zce a b=1:=by unfold Zce;rw[ha.len,hb.len,if_neg h1,if_pos h2]
  rw[hr];go_enter Tryz.func73,Tryz.ntmps73
  go_wp2
  go_ret;exact⟨rfl,Qb _ _⟩
 obtain rfl:n=m:=by omega
 have f:(((n:Nat):Int) != n)=false:=by simp
 go_enter Tryz.func73,Tryz.ntmps73
 go_wp2
 go_loopw [5] (λiv wr=>∃ k:Nat,k<=n/\iv=.int .i64 ((n:Int)-1-k)/\Hid (∀ j,n-k<=j->j<n->a[j]?.getD 0=b[j]?.getD 0)/\Below w.heap.size w wr) (λiv _=>(intOf iv+1).toNat)
 case atStart=>exact⟨0,Qn _,by go_num,λj h h'=>by omega,Qb _ _⟩
 case round =>
  obtain⟨k,hk,rfl,he,hB⟩:=hrel;by_cases hlt:k<n
  ·obtain⟨ba,oa,rfl,U⟩:=(ha.below hB).at_ (k:=n-1-k) (by omega)
   obtain⟨bb,ob,rfl,T⟩:=(hb.below hB).at_ (k:=n-1-k) (by omega);have I:=Za ha.len;have O:=Za hb.len;by_cases t1:a[n-1-k]?.getD 0<b[n-1-k]?.getD 0
   ·have o:decide (a[n-1-k]?.getD 0<b[n-1-k]?.getD 0)=true:=by simpa using t1
    have HR:Hid (Zce a b=-1):=by
     have:=Zk8 ha.len hb.len ha.lt (by omega) (λj h h'=>he.out j (by omega) h') t1;unfold Hid Zce;rw[ha.len,hb.len];simp[this]
    go_wp2
    go_quiet (fail)
    go_wp2
    go_ret;exact⟨Zi8 HR.out.symm,(by first|exact Zf hB _|exact Zf (Zf hB _) _)⟩
   ·have o:decide (a[n-1-k]?.getD 0<b[n-1-k]?.getD 0)=false:=by simpa using t1
    by_cases t2:b[n-1-k]?.getD 0<a[n-1-k]?.getD 0
    ·have u:decide (b[n-1-k]?.getD 0<a[n-1-k]?.getD 0)=true:=by simpa using t2
     have HR:Hid (Zce a b=1):=by
      have:=Zk8 hb.len ha.len hb.lt (by omega) (λj h h'=>(he.out j (by omega) h').symm) t2;unfold Hid Zce;rw[ha.len,hb.len];simp[this];omega
     go_wp2
     go_quiet (fail)
     go_wp2
     go_quiet (fail)
     go_wp2
     go_ret;exact⟨Zi8 HR.out.symm,(by first|exact Zf hB _|exact Zf (Zf hB _) _)⟩
    ·have u:decide (b[n-1-k]?.getD 0<a[n-1-k]?.getD 0)=false:=by simpa using t2
     have HE:Hid (∀ j,n-(k+1)<=j->j<n->a[j]?.getD 0=b[j]?.getD 0):=λj h h'=>by
      rcases Qg j (n-k)with h3|h3
      ·obtain rfl:j=n-1-k:=by omega
       omega
      exact he.out j h3 h'
     go_wp2
     go_quiet (fail)
     go_wp2
     go_quiet (fail)
     go_wp2
     go_roundw
     case rel=>exact⟨k+1,by omega,by go_num,HE,(by first|exact Zf hB _|exact Zf (Zf hB _) _)⟩
     case measure=>simp[intOf];omega
  ·obtain rfl:k=n:=by omega
   have HR:Hid (Zce a b=0):=by
    have:=Zx1 ha.len hb.len (λj hj=>he.out j (by omega) hj);unfold Hid;rw[this,Znu]
   go_wp2
   go_ret;exact⟨Zi8 HR.out.symm,hB⟩
def Zf4(na nb:Bool)(a b:List Nat):Bool:=(na == nb) && (Zce a b == 0)
theorem Zey(na nb:Bool)(A B:Option Addr)(n c m d:Nat)(a b:List Nat)(w:World)(ha:Lim w A n c a)(hb:Lim w B m d b) :
    Calls Tryz.prog 30 #[.agg #[.bool na,.slice A n c],.agg #[.bool nb,.slice B m d]] w λe w'=>e=.returned (.bool (Zf4 na nb a b))/\Below w.heap.size w w':=by
 by_cases h:na=nb
 ·subst h
  have hs:Zf4 na na a b=(Zce a b == 0):=by simp[Zf4]
  rw[hs];generalize hx:Zce a b=x at *;have HX:=Za hx;clear hx hs;go_enter Tryz.func30,Tryz.ntmps30;go_wp2_with (go_at_call 73;refine(Zc7 _ _ _ _ _ _ _ _ _ ((ha.alloc _).alloc _) ((hb.alloc _).alloc _)).mono ?_;rintro e w1 ⟨he,f⟩;rw[HX.out]at he;subst he);go_ret;exact⟨rfl,(((Qb w.heap.size w).alloc (Qa _) _).alloc (by simp) _).trans (f.mono (by simp;omega))⟩
 ·have o:(na == nb)=false:=by simpa using h
  have hs:Zf4 na nb a b=false:=by simp[Zf4,o]
  rw[hs];clear hs;go_enter Tryz.func30,Tryz.ntmps30
  go_wp2
  go_ret;exact⟨rfl,((Qb w.heap.size w).alloc (Qa _) _).alloc (by simp) _⟩
