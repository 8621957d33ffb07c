/- Package wide: made, times, and what is built on them. -/
import Derived.Deep.RegionHeld3
import Derived.Deep.DeepFit
import Derived.BigQuiet
import Derived.Deep.QuietTactic
import Derived.Test.YthappeninglakaaGreatZg03
set_option maxRecDepth 100000
set_option maxHeartbeats 2000000
set_option linter.unusedSimpArgs false
set_option linter.unusedVariables false
namespace Go.Proofs.YthappeninglakaaGreat
open Go.RowKit
open Nat renaming le_refl→Qa,mod_lt→Qd,mul_le_mul_right→Qf,lt_or_ge→Qg,eq_zero_or_pos→Qh,le_trans→Qi,le_of_lt→Qm,zero_le→Qn,div_add_mod→Qr,div_le_self→Qs,mul_le_mul_left→Qu,lt_trans→Qv,lt_of_le_of_lt→Qw,pow_pos→Qx,div_eq_of_lt→Qy,mod_eq_of_lt→Qz
open Below renaming refl→Qb
open World renaming size_alloc→Qc,cell?_setCell_other→Qo
open Blk renaming new→Qe
open List renaming length_take→Qj,length_set→Qp,replicate→Qt
open Int renaming fdiv→Qk,fmod→Ql
open And renaming intro→Qq
attribute [local go_sem] Zg
theorem Zzv{w w':World}{A:Option Addr}{n c:Nat}{l:List Nat}{neg:Bool}(h:Lim w A n c l)(hb:Below w.heap.size w w')(hs:val l<pw 4096) :
    ResW w (sg neg (val l)) (.returned (.tuple #[.agg #[.bool (neg && decide (0<(digits (val l)).length)),.slice A (digits (val l)).length c],.int .i64 0])) w':=
 ⟨hb,_,_,_,_,_,rfl,.inl ⟨by rw[Zab];exact hs,rfl,(Wd.made h neg hs).below hb⟩⟩
theorem Zb7(neg:Bool)(A:Option Addr)(n c:Nat)(l:List Nat)(w:World)(h:Lim w A n c l) :
    Calls Tryz.prog 158 #[.bool neg,.slice A n c] w (ResW w (sg neg (val l))):=by
 have hk:=h.canon.2;have o:=h.2.1;have f:=h.2.2.1;unfold maxLen at f
 have HO:Hid (∀ w',Below w.heap.size w w'->val l<pw 4096->ResW w (sg neg (val l)) (.returned (.tuple #[.agg #[.bool (neg && decide (0<(digits (val l)).length)),.slice A (digits (val l)).length c],.int .i64 0])) w'):=
  λw' hb hs=>Zzv h hb hs
 have HB:Hid (∀ w',Below w.heap.size w w'->pw 4096<=val l->ResW w (sg neg (val l)) (.returned (.tuple #[.agg #[.bool false,.slice none 0 0],.int .i64 16])) w'):=
  λw' hb hs=>⟨hb,_,_,_,_,_,rfl,.inr ⟨by rw[Zab];exact hs,rfl,rfl,rfl,rfl,rfl⟩⟩
 have HI:=Za (Zs (val l) 4096);have HT:=Za (Zgb A n c l);generalize hm:(digits (val l)).length=m at *;clear hm;by_cases h1:m<=4096
 ·by_cases h2:0<m
  ·have e:(neg && decide (0<m))=neg:=by simp[h2]
   simp only[e]at HO;clear e;have hd:decide (0<m)=true:=by simpa using h2
   cases neg
   all_goals
    go_enter Tryz.func158,Tryz.ntmps158;go_wp2_with (go_at_call 185;refine(HT.out _ (h.alloc _)).mono ?_;rintro e w' ⟨rfl,rfl⟩);go_returns;exact HO.out _ ((Qb _ _).alloc (Qa _) _) (HI.out.1 h1)
  ·obtain rfl:m=0:=by omega
   have e:(neg && decide (0<0))=false:=by simp
   simp only[e]at HO;clear e;cases neg
   all_goals
    go_enter Tryz.func158,Tryz.ntmps158;go_wp2_with (go_at_call 185;refine(HT.out _ (h.alloc _)).mono ?_;rintro e w' ⟨rfl,rfl⟩);go_returns;exact HO.out _ ((Qb _ _).alloc (Qa _) _) (HI.out.1 h1)
 ·have hp:pw 4096<=val l:=by
    rcases Qg (val l) (pw 4096)with h'|h';exact absurd (HI.out.2 h') h1;exact h'
  have HP:=Za hp;clear hp;go_enter Tryz.func158,Tryz.ntmps158;go_wp2_with (go_at_call 185;refine(HT.out _ (h.alloc _)).mono ?_;rintro e w' ⟨rfl,rfl⟩);go_returns;exact HB.out _ ((Qb _ _).alloc (Qa _) _) HP.out
def Times1(w:World)(a b:List Nat)(g i k carry:Nat)(wr:World):Prop:=
 ∃ out,Blk wr g 106 (Zw out)/\out.length=a.length+b.length/\Lt32 out/\(∀ j,i+b.length<=j->out[j]?.getD 0=0) /\
  val out+pw (i+k)*carry=val (a.take i)*val b+pw i*(a[i]?.getD 0*val (b.take k))/\carry<4294967296/\Below w.heap.size w wr
theorem Times1.start(w:World)(a b:List Nat):Times1 w a b w.heap.size 0 0 0 (w.alloc (.cells (Zw (Qt (a.length+b.length) 0)) 106)):=
 ⟨Qt _ 0,Qe _ _ _,by simp,Lt32.replicate _,λj _=>Zd3 _ _,by simp[Zen,val],by omega,(Qb _ _).alloc (Qa _) _⟩
theorem Times1.step{w wr:World}{a b out:List Nat}{i k carry s q:Nat}(hblk:Blk wr w.heap.size 106 (Zw out))(hlen:out.length=a.length+b.length)(hlt:Lt32 out)(hz:∀ j,i+b.length<=j->out[j]?.getD 0=0)
    (hI:val out+pw (i+k)*carry=val (a.take i)*val b+pw i*(a[i]?.getD 0*val (b.take k))) (hc:carry<4294967296) (hB:Below w.heap.size w wr) (hi:i<a.length) (hk:k<b.length)
    (ha:Lt32 a) (hb:Lt32 b) (hs:s<4294967296) (he:s+4294967296*q=carry+a[i]?.getD 0*b[k]?.getD 0+out[i+k]?.getD 0) :
    Times1 w a b w.heap.size i (k+1) q (wr.setCell ⟨w.heap.size,i+k,none⟩ (limb s)):=
 ⟨out.set (i+k) s,by rw[<- Zb3];exact hblk.set_ _ _,by rw[Qp];exact hlen,hlt.set _ hs,λj hj=>by rw[getD_set_ne _ (by omega)];exact hz j (by omega),
  Zud (by omega) hI he,Z0v (ha.get i) (hb.get k) (hlt.get _) hc he,hB.setCell (p:=⟨w.heap.size,i+k,none⟩) (Qa _) _⟩
theorem Times1.row{w wr:World}{a b:List Nat}{i carry:Nat}(h:Times1 w a b w.heap.size i b.length carry wr)(hi:i<a.length) :
    Times1 w a b w.heap.size (i+1) 0 0 (wr.setCell ⟨w.heap.size,i+b.length,none⟩ (limb carry)):=by
 obtain⟨out,e,f,o,hz,hI,hc,hB⟩:=h;rw[List.take_length]at hI;refine⟨out.set (i+b.length) carry,by rw[<- Zb3];exact e.set_ _ _,by rw[Qp];exact f,o.set _ hc,λj hj=>by rw[getD_set_ne _ (by omega)];exact hz j (by omega),?_,by omega,hB.setCell (p:=⟨w.heap.size,i+b.length,none⟩) (Qa _) _⟩;have:=Zxt (by omega) (hz _ (Qa _)) hI;simp[val,this]
theorem Times1.stop{w wr:World}{a b:List Nat}{carry:Nat}(h:Times1 w a b w.heap.size a.length 0 carry wr)(hn:a.length+b.length<=maxLen)(h0:carry=0) :
    OutL w (λl=>l.length=a.length+b.length/\val l=val a*val b) (.returned (.slice (some ⟨w.heap.size,0,none⟩) (a.length+b.length) (a.length+b.length))) wr:=by
 obtain⟨out,f,e,o,-,hI,-,hB⟩:=h;have hL:=Lim.of_blk f o (by omega);rw[e]at hL;refine⟨_,_,_,_,rfl,hL,⟨e,?_⟩,hB⟩;subst h0;simpa [val]using hI
theorem Zw5(A B:Option Addr)(n c m d:Nat)(a b:List Nat)(w:World)(ha:Lim w A n c a)(hb:Lim w B m d b)(hn:n<=1000000000)(hm:m<=1000000000) :
    Calls Tryz.prog 178 #[.slice A n c,.slice B m d] w (OutL w λl=>l.length=n+m/\val l=val a*val b):=by
 obtain⟨i0,hi,U,a1,J⟩:=info_parts Zdo;have a8:=Zhm (P:=Tryz.prog) 37 106 Tryz.underlying37 hi U a1 J ((n:Int)+m) (n+m) (by omega) (by omega);have a7:=ha.2.1;have a9:=hb.2.1;have O:=ha.2.2.1;have V:=hb.2.2.1;unfold maxLen at O V;have o:=Za ha.len;have h:=Za hb.len;go_enter Tryz.func178,Tryz.ntmps178
 go_wp2
 go_loopw [19] (λiv wr=>∃ i:Nat,i<=n/\iv=.int .i64 i/\Times1 w a b w.heap.size i 0 0 wr) (λiv _=>n-(intOf iv).toNat)
 case atStart=>exact⟨0,Qn _,rfl,by have:=Times1.start w a b;rw[ha.len,hb.len]at this;exact this⟩
 case round =>
  obtain⟨i,a4,rfl,hP⟩:=hrel;by_cases hlt1:i<n
  ·have a0:Below w.heap.size w wr:=by obtain⟨out,h1,h2,h3,h4,h5,h6,h7⟩:=hP;exact h7
   obtain⟨ba,oa,rfl,a5⟩:=(ha.below a0).at_ hlt1;have a2:=ha.lt.get i;obtain⟨wo,rfl⟩:=Gy wr
   go_wp2
   go_loopw [8,26] (λcv kv wr=>∃ k carry:Nat,k<=m/\cv=.int .u64 carry/\kv=.int .i64 k/\Times1 w a b w.heap.size i k carry wr) (λ_ kv _=>m-(intOf kv).toNat)
   case atStart=>exact⟨0,0,Qn _,rfl,rfl,hP⟩
   case round =>
    obtain⟨k,carry,hk,rfl,rfl,hP⟩:=hrel;by_cases hlt2:k<m
    ·obtain⟨out,e,f,u,hz,hI,y,hB⟩:=hP
     have hz:=Za hz;have hI:=Za hI;have f:=Za f;have I:=e.lt;obtain⟨bb,ob,rfl,a6⟩:=(hb.below hB).at_ hlt2;have Y:=hb.lt.get k;have C:=e.cell (i+k);rw[Za5 out (i+k) (by rw[f.out,o.out,h.out];omega)]at C;have a3:=u.get (i+k);have T:=e.frozen (i+k)
     go_wp2
     go_roundw
     case rel =>
      rw[mulstep y a2 Y a3,Zsj,Zq7];exact⟨k+1,_,by omega,rfl,by go_num,Times1.step e f.out u hz.out hI.out y hB (by rw[o.out];exact hlt1) (by rw[h.out];exact hlt2) ha.lt hb.lt (Qd _ (by decide)) (by omega)⟩
     case measure=>simp[intOf];omega
    ·obtain rfl:k=m:=by omega
     have HR:Hid (Times1 w a b w.heap.size (i+1) 0 0 (wr.setCell ⟨w.heap.size,i+k,none⟩ (limb carry))):=by
      rw[<- h.out]at hP ⊢;exact hP.row (by rw[o.out];exact hlt1)
     obtain⟨out,e,f,u,hz,hI,y,hB⟩:=hP;have I:=e.lt;have C:=e.cell (i+k);rw[Za5 out (i+k) (by rw[f,o.out,h.out];omega)]at C;have T:=e.frozen (i+k);clear hz hI f e
     go_wp2
     go_roundw
     case rel=>exact⟨i+1,by omega,by go_num,HR.out⟩
     case measure=>simp[intOf];omega
  ·obtain rfl:i=n:=by omega
   have HF:Hid (OutL w (λl=>l.length=i+m/\val l=val a*val b) (.returned (.slice (some ⟨w.heap.size,0,none⟩) (i+m) (i+m))) wr):=by
    rw[<- h.out];have h1:=o.out;subst h1;exact Times1.stop hP (by rw[h.out];unfold maxLen;omega) rfl
   clear hP
   go_wp2
   go_ret;exact HF.out
def Zhy(b:Bool):Int:=if b then 0 else 8
theorem Zkh(A:Option Addr)(n c:Nat)(es:List WE)(w:World)(h:WL w A n c es) :
    Calls Tryz.prog 163 #[.slice A n c] w λe w'=>e=.returned (.int .i64 (Zhy (es.all WE.ok)))/\Below w.heap.size w w':=by
 have Y:=h.2.1;have J:=h.2.2.1;unfold maxLen at J;go_enter Tryz.func163,Tryz.ntmps163
 go_wp2
 go_loopw [8] (λv wr=>∃ k:Nat,k<=n/\v=.int .i64 k/\Hid (∀ e ∈ es.take k,e.ok=true)/\Below w.heap.size w wr) (λv _=>n-(intOf v).toNat)
 case atStart=>exact⟨0,Qn _,rfl,by unfold Hid;simp,Qb _ _⟩
 case round =>
  obtain⟨k,hk,rfl,ho,hB⟩:=hrel;by_cases hk0:k<n
  ·obtain⟨b,o,e,rfl,he,O,C,hL⟩:=(h.below hB).at_ hk0
   have I:=hL.2.1;have y:=hL.2.2.1;unfold maxLen at y;have HE:=Za he;have HLen:=Za hL.len
   have u:Hid (e.ok=true->∀ x ∈ es.take (k+1),x.ok=true):=λhok x hx=>by
    rw[List.take_add_one,HE.out]at hx;rcases List.mem_append.1 hx with hx|hx;exact ho.out x hx;simp at hx;subst hx;exact hok
   have f:Hid (e.ok=false->Ending.returned (.int .i64 8)=.returned (.int .i64 (Zhy (es.all WE.ok)))):=λhok=>by
    have:es.all WE.ok=false:=by
     rw[List.all_eq_false];exact⟨e,List.mem_of_getElem? HE.out,by simp[hok]⟩
    rw[this];rfl
   obtain⟨neg,A1,n1,c1,l1⟩:=e;dsimp only at O C hL I y HLen;clear he;by_cases t1:n1<=4096
   ·by_cases t2:0<n1
    ·obtain⟨b1,o1,rfl,hx⟩:=hL.at_ (k:=n1-1) (by omega)
     have V:=Zo hx;by_cases t3:l1[n1-1]?.getD 0=0
     ·have T:(((l1[n1-1]?.getD 0:Nat):Int) == 0)=true:=by simp[t3]
      have H8:=Za (f.out (Zrm (by rw[HLen.out];exact t2) (by rw[HLen.out];exact t3)));clear t3 hL
      go_wp2
      go_ret;exact⟨H8.out,hB.alloc hB.size _⟩
     ·have T:(((l1[n1-1]?.getD 0:Nat):Int) == 0)=false:=by simpa using t3
      have HG:=Za (u.out (Zzj (by rw[HLen.out];exact t2) (by rw[HLen.out];exact t1) (by rw[HLen.out];exact t3)));have U:((n1:Int) == 0)=false:=by simp;omega
      clear t3 hL;cases neg
      all_goals
       go_wp2
       go_roundw
       case rel=>exact⟨k+1,by omega,by go_num,HG,hB.alloc hB.size _⟩
       case measure=>simp[intOf];omega
    ·obtain rfl:n1=0:=by omega
     cases neg
     ·have HG:=Za (u.out (by unfold WE.ok;rw[Zpb HLen.out];rfl))
      clear hL
      go_wp2
      go_roundw
      case rel=>exact⟨k+1,by omega,by go_num,HG,hB.alloc hB.size _⟩
      case measure=>simp[intOf];omega
     ·have H8:=Za (f.out (by unfold WE.ok;rw[Zpb HLen.out];rfl))
      clear hL
      go_wp2
      go_ret;exact⟨H8.out,hB.alloc hB.size _⟩
   ·have H8:=Za (f.out (Zva (by rw[HLen.out];omega)))
    clear hL
    go_wp2
    go_ret;exact⟨H8.out,hB.alloc hB.size _⟩
  ·obtain rfl:k=n:=by omega
   have HA:Hid (es.all WE.ok=true):=by
    unfold Hid;rw[List.all_eq_true];have:=ho.out;rw[List.take_of_length_le (by rw[h.len];exact Qa _)]at this;exact this
   go_wp2
   go_ret;exact⟨by rw[HA.out];rfl,hB⟩
theorem Zdc{A:Option Addr}{n c:Nat}{es:List WE}{w:World}(h:WL w A n c es)(hk:es.all WE.ok=true) :
    Calls Tryz.prog 163 #[.slice A n c] w λe w'=>e=.returned (.int .i64 0)/\Below w.heap.size w w':=
 (Zkh A n c es w h).mono λ_ _ ⟨he,hb⟩=>⟨by rw[he,hk];rfl,hb⟩
theorem Zxh{A:Option Addr}{n c:Nat}{es:List WE}{w:World}(h:WL w A n c es)(hk:es.all WE.ok=false) :
    Calls Tryz.prog 163 #[.slice A n c] w λe w'=>e=.returned (.int .i64 8)/\Below w.heap.size w w':=
 (Zkh A n c es w h).mono λ_ _ ⟨he,hb⟩=>⟨by rw[he,hk];rfl,hb⟩
theorem Zo0(neg:Bool)(A:Option Addr)(n c:Nat)(l:List Nat)(w:World)(h:Lim w A n c l) :
    Calls Tryz.prog 156 #[.agg #[.bool neg,.slice A n c]] w λe w'=>e=.returned (.int .i64 (Zhy (okW neg l)))/\Below w.heap.size w w':=by
 have hW:∀ X t,WL ((w.alloc X).alloc (.cells #[.bool neg,.slice A n c] t)) (some ⟨w.heap.size+1,0,none⟩) 1 1 [⟨neg,A,n,c,l⟩]:=λX t=>by
  have:=WL.one (neg:=neg) (h.alloc X) t;rw[Qc]at this;exact this
 have hW:=Za hW;go_enter Tryz.func156,Tryz.ntmps156;go_wp2_with (go_at_call 163;refine(Zkh _ _ _ _ _ (hW.out _ _)).mono ?_;rintro e w1 ⟨rfl,hb⟩);go_ret;exact⟨by simp[WE.ok],((Qb _ _).alloc (Qa _) _).alloc (by simp) _ |>.trans (hb.mono (by simp;omega))⟩
theorem Zhp{va vb:Nat}:(0<=Zck (digits va) (digits vb)) ↔ vb<=va:=by
 unfold Zck;rw[Zj,Zj]
 split
 ·rename_i h
  have:=(Zs va ((digits vb).length-1)).1 (by omega);have h2:=Zg8 (n:=vb) (k:=(digits vb).length-1) (by omega);constructor <;> intro <;> omega
 ·split
  ·rename_i h
   have:=(Zs vb ((digits va).length-1)).1 (by omega);have h2:=Zg8 (n:=va) (k:=(digits va).length-1) (by omega);constructor <;> intro <;> omega
  ·split
   ·constructor <;> intro <;> omega
   ·split <;> constructor <;> intro <;> omega
theorem Zk0(s:Bool)(a b:Nat):sg s (a+b)=sg s a+sg s b:=by unfold sg;split <;> omega
theorem Zfn{s t:Bool}(h:s≠t){a b d:Nat}(hd:d+b=a):sg s d=sg s a+sg t b:=by
 cases s <;> cases t <;> simp_all [sg] <;> omega
theorem Zv{B:Nat}{w w':World}(h:Below B w.drew w'):Below B w w':=⟨h.os,h.tape,h.output,h.size,h.block⟩
theorem Zvw(na nb:Bool)(A B:Option Addr)(n c m d:Nat)(va vb:Nat)(w:World)(ha:Lim w A n c (digits va))(hb:Lim w B m d (digits vb))(hn:n<=4096)(hm:m<=4096) :
    Calls Tryz.prog 164 #[.agg #[.bool na,.slice A n c],.agg #[.bool nb,.slice B m d]] w (ResW w (sg na va+sg nb vb)):=by
 obtain⟨cv,V⟩:∃ x:Int,Zck (digits va) (digits vb)=x:=⟨_,rfl⟩;have HC:=Za V;have a4:0<=cv ↔ vb<=va:=by rw[<- V];exact Zhp
 have a4:=Za a4;by_cases hs:na=nb
 ·subst hs
  clear V;have HZ:∀ l:List Nat,val l=val (digits va)+val (digits vb)->sg na (val l)=sg na va+sg na vb:=λl h=>by rw[h,Zj,Zj,Zk0]
  go_enter Tryz.func164,Tryz.ntmps164;go_wp2_with (go_at_call 186;refine(Zcn _ _ _ _ _ _ _ _ _ (((ha.alloc _).alloc _).alloc _) (((hb.alloc _).alloc _).alloc _)).mono ?_;rintro e w1 ⟨O,y⟩;rw[HC.out]at O;subst O;obtain⟨C,a6⟩:=Zdh y;have a5:w.heap.size+1+1<w1.heap.size:=by(have:=y.size;simp at this;omega));have u:Below w.heap.size w w1:=(((((Qb w.heap.size w).alloc (Qa _) _).alloc (by simp) _).alloc (by simp;omega) _).trans (y.mono (by simp;omega)));have a0:=ha.below u;have T:=hb.below u;have g0:w1.cell? ⟨w.heap.size,0,none⟩=some (.bool na):=by simp[C,go_sem]
  have g1:w1.cell? ⟨w.heap.size,1,none⟩=some (.slice A n c):=by simp[C,go_sem]
  have f0:w1.cell? ⟨w.heap.size+1,0,none⟩=some (.bool na):=by simp[C,go_sem]
  have g2:w1.cell? ⟨w.heap.size+1,1,none⟩=some (.slice B m d):=by simp[C,go_sem]
  have g7:Blk w1 (w.heap.size+1+1) 39 #[.bool false,.slice none 0 0]:=by
   refine Zc y ?_;have:=Qe ((w.alloc (.cells #[.bool na,.slice A n c] 39)).alloc (.cells #[.bool na,.slice B m d] 39)) 39 #[.bool false,.slice none 0 0];simp only[Qc]at this;exact this
  have g3:=g7.cell 0;have g4:=g7.cell 1;have g5:=g7.frozen 0;have g6:=g7.frozen 1;simp at g3 g4
  go_region_held3 (λw'=>w'.cell? ⟨w.heap.size,0,none⟩=some (.bool na)/\w'.cell? ⟨w.heap.size,1,none⟩=some (.slice A n c)/\w'.cell? ⟨w.heap.size+1,0,none⟩=some (.bool na)/\w'.cell? ⟨w.heap.size+1,1,none⟩=some (.slice B m d))
   (((try dsimp only);(repeat' apply Qq);all_goals (first|go_keep|(simp[*,go_sem];done))))
   (first
    | (go_at_call 168;refine(Zr4 _ _ _ _ _ _ _ _ _ (by exact a0) (by exact T) (by omega) (by omega)).mono ?_;rintro e w2 ⟨A2,n2,c2,l2,rfl,a3,a2,f⟩;have k0:=Zb f g0;have k1:=Zb f g1;have j0:=Zb f f0;have k2:=Zb f g2;have k3:=Zb f g3;have k4:=Zb f g4;have k5:=Zn f g3 g5;have k6:=Zn f g4 g6;have k7:=Zc f g7)
    | (go_at_call 158;refine(Zb7 _ _ _ _ _ _ (by exact a3)).mono ?_;rintro e w3 ⟨o,J,A3,n3,c3,I,rfl,a1⟩;have m0:=Zb o k0;have m1:=Zb o k1;have i0:=Zb o j0;have m2:=Zb o k2;have m3:=Zb o k3;have m4:=Zb o k4;have m5:=Zn o k3 k5;have m6:=Zn o k4 k6;have m7:=Zc o k7))
  have Y:Below w.heap.size w w3:=(u.trans ((Zv f).mono u.size)).trans (o.mono (Qi u.size (Zv f).size))
  go_wp2
  refine bodyPost_ret (v:=.tuple #[.agg #[.bool J,.slice A3 n3 c3],.int .i64 I]) (by simp[results,Tryz.results164,go_sem,m3,m4]) rfl ?_;exact ResW.box (HZ l2 a2.2▸a1) Y (by omega) m7
 ·have a7:(na == nb)=false:=by simpa using hs
  by_cases hcc:0<=cv
  ·have U:=a4.out.1 hcc
   have HLE:Hid (m<=n):=by have:=Z4 U;rw[ha.len,hb.len]at this;exact this
   have HVL:Hid (val (digits vb)<=val (digits va)):=by rw[Zj,Zj];exact U
   have HZ:∀ l:List Nat,val l+val (digits vb)=val (digits va)->sg na (val l)=sg na va+sg nb vb:=λl h=>Zfn hs (by rw[Zj,Zj]at h;exact h);clear V U hs;go_enter Tryz.func164,Tryz.ntmps164;go_wp2_with (go_at_call 186;refine(Zcn _ _ _ _ _ _ _ _ _ (((ha.alloc _).alloc _).alloc _) (((hb.alloc _).alloc _).alloc _)).mono ?_;rintro e w1 ⟨O,y⟩;rw[HC.out]at O;subst O;obtain⟨C,a6⟩:=Zdh y;have a5:w.heap.size+1+1<w1.heap.size:=by(have:=y.size;simp at this;omega));have u:Below w.heap.size w w1:=(((((Qb w.heap.size w).alloc (Qa _) _).alloc (by simp) _).alloc (by simp;omega) _).trans (y.mono (by simp;omega)));have a0:=ha.below u;have T:=hb.below u;have g0:w1.cell? ⟨w.heap.size,0,none⟩=some (.bool na):=by simp[C,go_sem]
   have g1:w1.cell? ⟨w.heap.size,1,none⟩=some (.slice A n c):=by simp[C,go_sem]
   have f0:w1.cell? ⟨w.heap.size+1,0,none⟩=some (.bool nb):=by simp[C,go_sem]
   have g2:w1.cell? ⟨w.heap.size+1,1,none⟩=some (.slice B m d):=by simp[C,go_sem]
   have g7:Blk w1 (w.heap.size+1+1) 39 #[.bool false,.slice none 0 0]:=by
    refine Zc y ?_;have:=Qe ((w.alloc (.cells #[.bool na,.slice A n c] 39)).alloc (.cells #[.bool nb,.slice B m d] 39)) 39 #[.bool false,.slice none 0 0];simp only[Qc]at this;exact this
   have g3:=g7.cell 0;have g4:=g7.cell 1;have g5:=g7.frozen 0;have g6:=g7.frozen 1;simp at g3 g4
   go_region_held3 (λw'=>w'.cell? ⟨w.heap.size,0,none⟩=some (.bool na)/\w'.cell? ⟨w.heap.size,1,none⟩=some (.slice A n c)/\w'.cell? ⟨w.heap.size+1,0,none⟩=some (.bool nb)/\w'.cell? ⟨w.heap.size+1,1,none⟩=some (.slice B m d))
    (((try dsimp only);(repeat' apply Qq);all_goals (first|go_keep|(simp[*,go_sem];done))))
    (first
     | (go_at_call 187;refine(Zke _ _ _ _ _ _ _ _ _ (by exact a0) (by exact T) HLE.out HVL.out (by omega)).mono ?_;rintro e w2 ⟨A2,n2,c2,l2,rfl,a3,a2,f⟩;have k0:=Zb f g0;have k1:=Zb f g1;have j0:=Zb f f0;have k2:=Zb f g2;have k3:=Zb f g3;have k4:=Zb f g4;have k5:=Zn f g3 g5;have k6:=Zn f g4 g6;have k7:=Zc f g7)
     | (go_at_call 158;refine(Zb7 _ _ _ _ _ _ (by exact a3)).mono ?_;rintro e w3 ⟨o,J,A3,n3,c3,I,rfl,a1⟩;have m0:=Zb o k0;have m1:=Zb o k1;have i0:=Zb o j0;have m2:=Zb o k2;have m3:=Zb o k3;have m4:=Zb o k4;have m5:=Zn o k3 k5;have m6:=Zn o k4 k6;have m7:=Zc o k7))
   have Y:Below w.heap.size w w3:=(u.trans ((Zv f).mono u.size)).trans (o.mono (Qi u.size (Zv f).size))
   go_wp2
   refine bodyPost_ret (v:=.tuple #[.agg #[.bool J,.slice A3 n3 c3],.int .i64 I]) (by simp[results,Tryz.results164,go_sem,m3,m4]) rfl ?_;exact ResW.box (HZ l2 a2.2▸a1) Y (by omega) m7
  ·have U:va<=vb:=by
     rcases Qg vb va with h|h;exact absurd (a4.out.2 (Qm h)) hcc;exact h
   have HLE:Hid (n<=m):=by have:=Z4 U;rw[ha.len,hb.len]at this;exact this
   have HVL:Hid (val (digits va)<=val (digits vb)):=by rw[Zj,Zj];exact U
   have HZ:∀ l:List Nat,val l+val (digits va)=val (digits vb)->sg nb (val l)=sg na va+sg nb vb:=λl h=>by rw[Int.add_comm];exact Zfn (Ne.symm hs) (by rw[Zj,Zj]at h;exact h)
   clear V U hs;go_enter Tryz.func164,Tryz.ntmps164;go_wp2_with (go_at_call 186;refine(Zcn _ _ _ _ _ _ _ _ _ (((ha.alloc _).alloc _).alloc _) (((hb.alloc _).alloc _).alloc _)).mono ?_;rintro e w1 ⟨O,y⟩;rw[HC.out]at O;subst O;obtain⟨C,a6⟩:=Zdh y;have a5:w.heap.size+1+1<w1.heap.size:=by(have:=y.size;simp at this;omega));have u:Below w.heap.size w w1:=(((((Qb w.heap.size w).alloc (Qa _) _).alloc (by simp) _).alloc (by simp;omega) _).trans (y.mono (by simp;omega)));have a0:=ha.below u;have T:=hb.below u;have g0:w1.cell? ⟨w.heap.size,0,none⟩=some (.bool na):=by simp[C,go_sem]
   have g1:w1.cell? ⟨w.heap.size,1,none⟩=some (.slice A n c):=by simp[C,go_sem]
   have f0:w1.cell? ⟨w.heap.size+1,0,none⟩=some (.bool nb):=by simp[C,go_sem]
   have g2:w1.cell? ⟨w.heap.size+1,1,none⟩=some (.slice B m d):=by simp[C,go_sem]
   have g7:Blk w1 (w.heap.size+1+1) 39 #[.bool false,.slice none 0 0]:=by
    refine Zc y ?_;have:=Qe ((w.alloc (.cells #[.bool na,.slice A n c] 39)).alloc (.cells #[.bool nb,.slice B m d] 39)) 39 #[.bool false,.slice none 0 0];simp only[Qc]at this;exact this
   have g3:=g7.cell 0;have g4:=g7.cell 1;have g5:=g7.frozen 0;have g6:=g7.frozen 1;simp at g3 g4
   go_region_held3 (λw'=>w'.cell? ⟨w.heap.size,0,none⟩=some (.bool na)/\w'.cell? ⟨w.heap.size,1,none⟩=some (.slice A n c)/\w'.cell? ⟨w.heap.size+1,0,none⟩=some (.bool nb)/\w'.cell? ⟨w.heap.size+1,1,none⟩=some (.slice B m d))
    (((try dsimp only);(repeat' apply Qq);all_goals (first|go_keep|(simp[*,go_sem];done))))
    (first
     | (go_at_call 187;refine(Zke _ _ _ _ _ _ _ _ _ (by exact T) (by exact a0) HLE.out HVL.out (by omega)).mono ?_;rintro e w2 ⟨A2,n2,c2,l2,rfl,a3,a2,f⟩;have k0:=Zb f g0;have k1:=Zb f g1;have j0:=Zb f f0;have k2:=Zb f g2;have k3:=Zb f g3;have k4:=Zb f g4;have k5:=Zn f g3 g5;have k6:=Zn f g4 g6;have k7:=Zc f g7)
     | (go_at_call 158;refine(Zb7 _ _ _ _ _ _ (by exact a3)).mono ?_;rintro e w3 ⟨o,J,A3,n3,c3,I,rfl,a1⟩;have m0:=Zb o k0;have m1:=Zb o k1;have i0:=Zb o j0;have m2:=Zb o k2;have m3:=Zb o k3;have m4:=Zb o k4;have m5:=Zn o k3 k5;have m6:=Zn o k4 k6;have m7:=Zc o k7))
   have Y:Below w.heap.size w w3:=(u.trans ((Zv f).mono u.size)).trans (o.mono (Qi u.size (Zv f).size))
   go_wp2
   refine bodyPost_ret (v:=.tuple #[.agg #[.bool J,.slice A3 n3 c3],.int .i64 I]) (by simp[results,Tryz.results164,go_sem,m3,m4]) rfl ?_;exact ResW.box (HZ l2 a2.2▸a1) Y (by omega) m7
def Zqa(w:World)(a b:Nat)(e:Ending)(w':World):Prop:=
 ∃ A n c B m d,e=.returned (.tuple #[.slice A n c,.slice B m d])/\Lim w' A n c (digits (a/b))/\Lim w' B m d (digits (a%b))/\Below w.heap.size w w'
theorem Blk.setCells{w:World}{g g' o:Nat}{t:TypeId}{cs:Array Value}{us:List Value}(h:Blk w g t cs)(hne:g≠g'):Blk (w.setCells g' o us) g t cs:=by
 induction us generalizing o w with
 | nil=>exact h
 | cons u us ih=>exact ih (h.far hne u)
theorem Zm3{B:Nat}{w w':World}{g o:Nat}{us:List Value}(h:Below B w w')(hg:B<=g):Below B w (w'.setCells g o us):=by
 induction us generalizing o w' with
 | nil=>exact h
 | cons u us ih=>exact ih (h.setCell (p:=⟨g,o,none⟩) hg u)
theorem Zia{v:List Nat}{n:Nat}(hn:v.length=n)(h0:0<n)(hlt:Lt32 v):val v<(v[n-1]?.getD 0+1)*pw (n-1):=by
 have e:=Zag v (n-1) (by omega);rw[Zbv (by omega),List.drop_of_length_le (by omega)]at e;have h1:=Zgm (hlt.take (n-1));rw[Qj,Nat.min_eq_left (by omega)]at h1;simp only[val]at e;rw[e,Nat.add_mul,Nat.one_mul,Nat.mul_comm (v[n-1]?.getD 0)];simp only[Nat.mul_zero,Nat.add_zero];omega
theorem Zl5{v:Nat}(h:(digits v).length=1):digits v=[v]/\0<v/\v<4294967296:=by
 have hv:0<v:=length_digits_pos.1 (by omega);have e:=Zcp v;rw[h]at e;have:v<4294967296:=e;refine⟨?_,hv,this⟩;rw[Zdn (by omega),Qy this,Qz this,Zat]
theorem Zru(A B:Option Addr)(n c m d:Nat)(a b:Nat)(w:World)(ha:Lim w A n c (digits a))(hb:Lim w B m d (digits b))(hn:n<=100000)(h:a<b) :
    Calls Tryz.prog 182 #[.slice A n c,.slice B m d] w (Zqa w a b):=by
 have u:Hid (Zck (digits a) (digits b)<0):=by
  have:=(Zhp (va:=a) (vb:=b));unfold Hid;omega
 obtain⟨cv,f⟩:∃ x:Int,Zck (digits a) (digits b)=x:=⟨_,rfl⟩;have I:cv<0:=by rw[<- f];exact u.out
 have HC:=Za f;clear u f;go_enter Tryz.func182,Tryz.ntmps182;go_wp2_with fail;refine(Zcn _ _ _ _ _ _ _ _ _ ha hb).mono ?_;rintro e w1 ⟨y,o⟩;rw[HC.out]at y;subst y;go_wp2_with fail;refine(Zh4 _ _ _ _ _ (ha.below o) (by omega)).mono ?_;rintro e w2 ⟨v,rfl,hO,C⟩;obtain⟨A2,c2,hv,hL⟩:=hO.lim;subst hv;go_wp2_with fail
 go_ret2
 have hB:Below w.heap.size w w2:=o.trans (C.mono o.size);exact⟨_,_,_,_,_,_,rfl,by rw[Qy h,Zat];exact Lim.nil _ _ _ (Qn _),by rw[Qz h];rw[show (digits a).length=n from ha.len]at hL ⊢;exact hL,hB⟩
theorem Zs7(A B:Option Addr)(n c m d:Nat)(a b:Nat)(w:World)(ha:Lim w A n c (digits a))(hb:Lim w B m d (digits b))(hn:n<=100000)(h:b<=a)(hm:m=1) :
    Calls Tryz.prog 182 #[.slice A n c,.slice B m d] w (Zqa w a b):=by
 subst hm;have a9:=ha.2.1;have a3:=ha.2.2.1;have b0:=hb.2.1;have a4:=hb.2.2.1;unfold maxLen at a3 a4;obtain⟨cv,C⟩:∃ x:Int,Zck (digits a) (digits b)=x:=⟨_,rfl⟩;have J:¬ cv<0:=by rw[<- C];have:=(Zhp (va:=a) (vb:=b));omega
 have a5:decide (cv<0)=false:=by simpa using J
 have HC:=Za C;clear C J;obtain⟨O,a1,I⟩:=Zl5 hb.len;obtain⟨g,o,rfl,f⟩:=hb.at_ (k:=0) (by omega);rw[O]at f;simp at f;replace O:=Za O;have y:a%b<4294967296:=Qv (Qd _ a1) I;have a6:=Za (Zj a);go_enter Tryz.func182,Tryz.ntmps182;go_wp2_with fail;refine(Zcn _ _ _ _ _ _ _ _ _ ha hb).mono ?_;rintro e w1 ⟨Y,u⟩;rw[HC.out]at Y;subst Y;have a2:=Zb u f;go_wp2_with fail;refine(Zwh _ _ _ b _ _ (ha.below u) a1 I (by omega)).mono ?_;rintro e w2 ⟨A2,n2,c2,rfl,T,V⟩;rw[a6.out]at T ⊢;obtain⟨r,hr⟩:=Gz (a%b);rw[hr]at y ⊢;replace hr:=Za hr
 have a7:∀ t,Lim (w2.alloc (.cells #[limb r] t)) (some ⟨w2.heap.size,0,none⟩) 1 1 [r]:=λt=>by
  have:=Lim.of_blk (l:=[r]) (Qe w2 t (Zw [r])) (Lt32.cons y Lt32.nil) (by simp[maxLen]);exact this
 have U:=Za a7;have a8:canon [r]=digits r:=by have:=Zsi (Lt32.cons y Lt32.nil);simpa [val]using this
 go_wp2_with fail;refine(Zgb _ _ _ _ _ (U.out _)).mono ?_;rintro e w3 ⟨rfl,rfl⟩;go_wp2_with fail
 go_ret2
 have a0:=(U.out 106).canon.1;rw[show val [r]=r by simp[val]]at a0 ⊢;refine⟨_,_,_,_,_,_,rfl,T.alloc _,by rw[hr.out];exact a0,((u.trans (V.mono u.size))).alloc (Qi u.size V.size) _⟩
theorem Lim.far{w:World}{A:Option Addr}{n c:Nat}{l:List Nat}(h:Lim w A n c l){p:Addr}{u:Value}(hne:∀ b o,A=some ⟨b,o,none⟩->b≠p.block):Lim (w.setCell p u) A n c l:=
 ⟨h.1,h.2.1,h.2.2.1,h.2.2.2.1,λhn=>by
  obtain⟨b,o,e,hc⟩:=h.2.2.2.2 hn;have hb:=hne b o e;exact⟨b,o,e,λk hk=>(Qo w _ _ u (λe2=>hb (by rw[e2]))).trans (hc k hk)⟩⟩
theorem Lim.setCells{A:Option Addr}{n c g:Nat}{l:List Nat}{us:List Value}(hne:∀ b o,A=some ⟨b,o,none⟩->b≠g):∀ {w:World} {o:Nat},Lim w A n c l->Lim (w.setCells g o us) A n c l:=by
 induction us with
 | nil=>exact λh=>h
 | cons u us ih=>exact λh=>ih (h.far hne)
theorem MutL.far{w:World}{g off:Nat}{l:List Nat}(h:MutL w g off l){p:Addr}{u:Value}(hne:g≠p.block):MutL (w.setCell p u) g off l:=λj hj =>
 ⟨(Qo w _ _ u (λe2=>hne (by rw[e2]))).trans (h j hj).1,by rw[World.frozen?_setCell];exact(h j hj).2⟩
theorem MutL.lim{w:World}{g:Nat}{l:List Nat}{n c:Nat}(h:MutL w g 0 l)(hl:l.length=n)(hnc:n<=c)(hcm:c<=maxLen)(hlt:Lt32 l):Lim w (some ⟨g,0,none⟩) n c l:=
 ⟨hl,hnc,hcm,hlt,λ_=>⟨g,0,rfl,λk hk=>(h k (by omega)).1⟩⟩
def DivR(w:World)(g q:Nat)(A:Option Addr)(c m nq:Nat)(vl:List Nat)(a b s k:Nat)(wr:World):Prop:=
 ∃ lu lq,DivI (2^s*a) (2^s*b) m lu lq k/\lq.length=nq/\MutL wr g 0 lu/\Blk wr q 106 (Zw lq)/\Lim wr A m c vl/\Below w.heap.size w wr
theorem DivR.step{w wr wr1:World}{g q:Nat}{A:Option Addr}{c m nq:Nat}{vl lu lq:List Nat}{a b s k:Nat}{l:List Nat}(hD:DivI (2^s*a) (2^s*b) m lu lq (k+1))(hq:lq.length=nq)(hM:MutL wr g 0 lu)(hB:Blk wr q 106 (Zw lq))
    (hL:Lim wr A m c vl) (hw:Below w.heap.size w wr) (hv:val vl=2^s*b) (hlen:l.length=m+1) (hlt:Lt32 l) (hl:val l=val ((lu.drop k).take (m+1))%val vl) (hb1:Below wr.heap.size wr wr1) (hQ:val ((lu.drop k).take (m+1))/val vl<4294967296)
    (hgq:g≠q) (hA:∀ b o,A=some ⟨b,o,none⟩->b≠g/\b≠q) (hg:w.heap.size<=g) (hqs:w.heap.size<=q) :
    DivR w g q A c m nq vl a b s k ((wr1.setCells g k (l.map limb)).setCell ⟨q,k,none⟩ (limb (val ((lu.drop k).take (m+1))/val vl))):=by
 have h:2^s*b<=pw m:=by rw[<- hv];exact Qm hL.lt_pw
 have f:k+l.length<=lu.length:=by have:=hD.2.2.1;have:=hD.2.2.2.1;omega
 refine⟨splice lu k l,lq.set k (val ((lu.drop k).take (m+1))/val vl),hD.step h hlen hlt hQ (by rw[hv]) (by rw[<- hv];exact hl),by rw[Qp];exact hq,
  ((hM.below hb1).splice f).far hgq,?_,((hL.below hb1).setCells (λb o e=>(hA b o e).1)).far (λb o e=>(hA b o e).2),?_⟩
 ·rw[<- Zb3]
  exact((hB.below hb1 hB.lt).setCells (Ne.symm hgq)).set_ _ _
 exact(Zm3 (hw.trans (hb1.mono hw.size)) hg).setCell (p:=⟨q,k,none⟩) hqs _
theorem Zr3(A B:Option Addr)(n c m d:Nat)(a b:Nat)(w:World)(ha:Lim w A n c (digits a))(hb:Lim w B m d (digits b))(hn:n<=100000)(h:b<=a)(hm:2<=m) :
    Calls Tryz.prog 182 #[.slice A n c,.slice B m d] w (Zqa w a b):=by
 have j2:=ha.2.1;have i1:=ha.2.2.1;have j1:=hb.2.1;have h5:=hb.2.2.1;unfold maxLen at i1 h5;have i3:m<=n:=by have:=Z4 h;rw[ha.len,hb.len]at this;exact this
 obtain⟨i0,hi,h3,i5,g9⟩:=info_parts Zdo;have j3:=Zhm (P:=Tryz.prog) 37 106 Tryz.underlying37 hi h3 i5 g9 ((n:Int)+1-m) (n+1-m) (by omega) (by omega);obtain⟨cv,a5⟩:∃ x:Int,Zck (digits a) (digits b)=x:=⟨_,rfl⟩;have b8:¬ cv<0:=by rw[<- a5];have:=(Zhp (va:=a) (vb:=b));omega
 have h4:decide (cv<0)=false:=by simpa using b8
 have HC:=Za a5;clear a5 b8;have j4:((m:Int) == 1)=false:=by simp;omega
 obtain⟨g,o,rfl,y⟩:=hb.at_ (k:=m-1) (by omega);have f:=hb.len;have b5:=Zfy (v:=b) (by omega);have g1:=Zpt f (by omega);have b1:=hb.lt.get (m-1);have e4:=Zcp b;rw[f]at b5 e4;have Y:=Zia f (by omega) hb.lt;rw[Zj]at g1 Y;obtain⟨x,hx⟩:=Gz ((digits b)[m-1]?.getD 0);rw[hx]at y b5 g1 b1 Y;replace f:=Za f;replace hx:=Za hx;have O:=Za (Zj a);have T:=Za (Zj b);go_enter Tryz.func182,Tryz.ntmps182;go_wp2_with fail;refine(Zcn _ _ _ _ _ _ _ _ _ ha hb).mono ?_;rintro e w1 ⟨f5,C⟩;rw[HC.out]at f5;subst f5;have b0:=Zb C y;go_wp2_with fail;refine(Z0n x _ (by omega) b1).mono ?_;rintro e w2 ⟨s,rfl,hs,hxs,rfl⟩;have g6:=ha.below C;have g5:=hb.below C;go_wp2_with fail
 go_region_with (first
  | (go_at_call 166;((with_reducible refine(Zsa (some ⟨g,o,none⟩) m d s (digits b) _ g5.drew hs (by omega)).mono ?_));rintro e w3 ⟨v3,o3,rfl,f9,a3,a6,a8⟩;obtain⟨A3,c3,J,a4⟩:=f9.lim;rw[a3]at J a4;subst J;have i8:=a4.2.1;have f6:=a4.2.2.1;unfold maxLen at f6;replace a3:=Za a3;replace a6:=Za a6;clear f9)
  | (go_at_call 166;((with_reducible refine(Zsa A n c s (digits a) _ (g6.drew.below a8) hs (by omega)).mono ?_));rintro e w4 ⟨v4,o4,rfl,c0,a0,V,c5⟩;obtain⟨g4,c4,b3,j0,i7,e6,f0,e9⟩:=c0.mut (by omega);rw[a0]at b3 e6;subst b3;unfold maxLen at f0;replace a0:=Za a0;replace V:=Za V))
 all_goals go_wp2_with fail
 all_goals
  replace T:=T.out;replace O:=O.out;rw[T]at a6;rw[O]at V;have b2:=a3.out;have J:=a6.out
  have f7:2^s*(x+1)<=4294967296:=by
   have h1:2^s*(x+1)<=2^s*2^(32-s):=Qu _ hxs;rw[<- Nat.pow_add,show s+(32-s)=32 by omega]at h1;exact h1
  have f4:2^s*b<pw m:=by
   have h1:2^s*b<2^s*((x+1)*pw (m-1)):=Nat.mul_lt_mul_of_pos_left Y (Qx (by omega));have h2:2^s*((x+1)*pw (m-1))<=4294967296*pw (m-1):=by rw[<- Nat.mul_assoc];exact Qf _ f7
   rw[<- Za3,show m-1+1=m by omega]at h2;omega
  have a7:val (o3.take m)=2^s*b:=by
   have h1:=Zag o3 m (by omega);rcases Qh (val (o3.drop m))with h0|h0;rw[h0]at h1;omega;have:=Qu (pw m) h0;omega
  have e7:=(a4.take (k:=m) (by omega)).below c5
  have i9:pw (m-1)<=2^s*b:=by
   have h1:=Qf (pw (m-1)) (show 1<=x by omega);have h2:1*b<=2^s*b:=Qf _ (Qx (by omega));omega
  have h8:(o3.take m)[m-1]?.getD 0≠0:=λh0=>by
   have h1:=Zia (v:=o3.take m) (n:=m) (by rw[Qj,b2];omega) (by omega) e7.lt;rw[h0,a7]at h1;omega
  have c2:Below w.heap.size w w4:=(C.trans ((Zv a8).mono C.size)).trans (c5.mono (Qi C.size (Zv a8).size))
  have a9:DivR w g4 w4.heap.size A3 c3 m (n+1-m) (o3.take m) a b s (n+1-m) (w4.alloc (.cells (Zw (Qt (n+1-m) 0)) 106)):=by
   have h1:=DivI.start (a:=digits a) (b:=digits b) (u:=o4) (s:=s) (n:=m) (by rw[O];exact V.out) (by rw[a0.out,ha.len]) c0.2 (by rw[ha.len];exact i3) ha.lt (by rw[T];have:=Qf (pw (m-1)) (show 1<=x by omega);omega) (by omega);rw[O,T,ha.len]at h1;exact⟨o4,_,h1,by simp,e9.below ((Qb _ _).alloc (Qa _) _),Qe _ _ _,e7.alloc _,c2.alloc c2.size _⟩
  have i2:∀ b o,A3=some ⟨b,o,none⟩->b≠g4/\b≠w4.heap.size:=λb o e=>by
   subst e;have h1:=Zo (a4.cell (k:=0) (by omega));have:=c5.size;simp only[]at h1;omega
  have g7:w.heap.size<=g4:=by have:=C.size;have:=(Zv a8).size;omega
  have e5:g4≠w4.heap.size:=by omega
  clear e9 c0 a0 V a6 a3 O T y b0 J b2;replace a7:=Za a7
  go_loopw [12] (λjv wr=>∃ k:Nat,k<=n+1-m/\jv=.int .i64 ((k:Int)-1)/\DivR w g4 w4.heap.size A3 c3 m (n+1-m) (o3.take m) a b s k wr) (λjv _=>(intOf jv+1).toNat)
  case atStart=>exact⟨n+1-m,Qa _,rfl,a9⟩
  case round =>
   obtain⟨k,hk,rfl,lu,lq,hD,hq,hM,U,e0,c7⟩:=hrel;replace hq:=Za hq;rcases k with _|k
   ·obtain⟨e1,e2⟩:=hD.stop
    have c1:Lim wr (some ⟨g4,0,none⟩) (n+1) c4 lu:=hM.lim (by have:=hD.2.2.1;have:=hq.out;omega) e6 (by unfold maxLen;omega) hD.1
    have i4:Lim wr (some ⟨w4.heap.size,0,none⟩) (n+1-m) (n+1-m) lq:=by
     have:=Lim.of_blk U hD.2.1 (by rw[hq.out];unfold maxLen;omega);rw[hq.out]at this;exact this
    have g2:=c1.canon.1;replace e1:=Za e1;replace e2:=Za e2;clear hD;go_wp2_with fail;refine(Zgb _ _ _ _ _ c1).mono ?_;rintro e w5 ⟨rfl,rfl⟩;go_wp2_with fail;refine(Zn7 _ _ _ s _ _ g2 hs (by have:=c1.canon.2;omega)).mono ?_;rintro e w6 ⟨A6,n6,c6,o6,b6,rfl,d9,g0,a1⟩
    have hz:Hid (val o6=a%b):=by
     unfold Hid;rw[g0,Zj,e2.out,Nat.mul_div_cancel_left _ (Qx (by omega))]
    clear g0;have b9:=i4.below a1;go_wp2_with fail;refine(Zgb _ _ _ _ _ b9).mono ?_;rintro e w7 ⟨rfl,rfl⟩;go_wp2_with fail;refine(Zgb _ _ _ _ _ d9).mono ?_;rintro e w8 ⟨rfl,rfl⟩;go_wp2_with fail
    go_ret2
    refine⟨_,_,_,_,_,_,rfl,?_,?_,c7.trans (a1.mono c7.size)⟩;rw[<- e1.out];exact b9.canon.1;rw[<- hz.out];exact d9.canon.1
   ·have h7:=hD
    obtain⟨d1,d2,d3,d4,d5,d6,d7⟩:=h7;replace d3:=Za d3;replace d5:=Za d5;replace d7:=Za d7;have e8:=U.cell k;rw[Za5 lq k (by rw[hq.out];omega)]at e8;have g8:=U.frozen k;go_wp2_with fail;have h6:2^s*b<=pw m:=Qm f4;obtain⟨c9,d8⟩:=hD.win h6;have I:((lu.drop k).take (m+1)).length=m+1:=by rw[Qj,List.length_drop,d3.out];omega
    have h9:MutL wr g4 k ((lu.drop k).take (m+1)):=by
     have:=hM.win (k:=k) (n:=m+1) (by rw[d3.out];omega)
     rwa [Nat.zero_add]at this
    have a2:val ((lu.drop k).take (m+1))<4294967296*val (o3.take m):=by rw[c9,a7.out];exact d8
    rw[show k+m+1-k=m+1 by omega];refine(Zy4 g4 k m (c4-k) c3 A3 _ _ _ h9 I ((d1.drop k).take (m+1)) (by omega) (by unfold maxLen;omega) (by omega) (by omega) e0 a2 h8).mono ?_;rintro e w5 ⟨l,w6,rfl,f3,d0,e3,a1,c8⟩
    have b7:val ((lu.drop k).take (m+1))/val (o3.take m)<4294967296:=by
     rw[Nat.div_lt_iff_lt_mul (by omega)];exact a2
    have hfin:=DivR.step (wr:=wr) hD hq.out hM U e0 c7 a7.out (by rw[f3];exact I) d0 e3 a1 b7 e5 i2 g7 c2.size;rw[<- c8]at hfin;have b4:Blk w5 w4.heap.size 106 (Zw lq):=by rw[c8];exact(U.below a1 U.lt).setCells (Ne.symm e5)
    have f8:=b4.cell k;rw[Za5 lq k (by rw[hq.out];omega)]at f8;have i6:=b4.frozen k;obtain⟨Q,hQ⟩:=Gz (val ((lu.drop k).take (m+1))/val (o3.take m));rw[hQ]at hfin b7 ⊢;clear e8 g8 c8 e3 f3 hQ c9 I a2 d8;replace hfin:=Za hfin;go_wp2_with fail
    go_roundw
    case rel=>exact⟨k,by omega,by go_num,hfin.out⟩
    case measure=>simp[intOf] <;> omega
theorem Zg0(A B:Option Addr)(n c m d:Nat)(a b:Nat)(w:World)(ha:Lim w A n c (digits a))(hb:Lim w B m d (digits b))(hn:n<=100000)(hb0:0<b) :
    Calls Tryz.prog 182 #[.slice A n c,.slice B m d] w (Zqa w a b):=by
 rcases Qg a b with h|h;exact Zru A B n c m d a b w ha hb hn h
 ·rcases Qg m 2 with h2|h2
  ·have h1:0<(digits b).length:=length_digits_pos.2 hb0
   rw[hb.len]at h1;exact Zs7 A B n c m d a b w ha hb hn h (by omega)
  exact Zr3 A B n c m d a b w ha hb hn h h2
def BadW(w:World)(e:Ending)(w':World):Prop:=e=.returned (.tuple #[.agg #[.bool false,.slice none 0 0],.int .i64 8])/\Below w.heap.size w w'
theorem Zzg(s:Bool)(v:Nat):sg (!s) v=- sg s v:=by cases s <;> simp[sg]
theorem sg_mul(s t:Bool)(a b:Nat):sg (s != t) (a*b)=sg s a*sg t b:=by cases s <;> cases t <;> simp[sg,Int.neg_mul,Int.mul_neg]
theorem Neg_ok(neg:Bool)(A:Option Addr)(n c:Nat)(z:Int)(w:World)(hz:Wd w neg A n c z) :
    Calls Tryz.prog 183 #[.agg #[.bool neg,.slice A n c]] w (ResW w (-z)):=by
 have hL:=hz.lim;have hn:=hz.2.1
 have hW:∀ X Y t,WL (((w.alloc X).alloc Y).alloc (.cells #[.bool neg,.slice A n c] t)) (some ⟨w.heap.size+1+1,0,none⟩) 1 1 [⟨neg,A,n,c,digits z.natAbs⟩]:=λX Y t=>by
  have:=WL.one (neg:=neg) ((hL.alloc X).alloc Y) t;simp only[Qc]at this;exact this
 have hW:=Za hW;have C:∀ X Y Z:Obj,Below w.heap.size w (((w.alloc X).alloc Y).alloc Z):=λX Y Z=>(((Qb w.heap.size w).alloc (Qa _) _).alloc (by simp) _).alloc (by simp;omega) _;have C:=Za C;have J:Hid (okW neg (digits z.natAbs)=true):=hz.ok;have a4:=Za hz.sgEq;clear hz;go_enter Tryz.func183,Tryz.ntmps183;go_wp2_with fail;refine(Zdc (hW.out _ _ _) (by have:=J.out;simp[WE.ok,this])).mono ?_;rintro e w1 ⟨rfl,o⟩;obtain⟨I,a3⟩:=Zdh o;have a5:w.heap.size+1+1<w1.heap.size:=by have:=o.size;simp at this;omega
 have u:Below w.heap.size w w1:=(C.out _ _ _).trans (o.mono (by simp;omega));have g0:w1.cell? ⟨w.heap.size,0,none⟩=some (.bool neg):=by simp[I,go_sem]
 have g1:w1.cell? ⟨w.heap.size,1,none⟩=some (.slice A n c):=by simp[I,go_sem]
 have g7:Blk w1 (w.heap.size+1) 39 #[.bool false,.slice none 0 0]:=by
  refine Zc o (Blk.alloc ?_ _);have:=Qe (w.alloc (.cells #[.bool neg,.slice A n c] 39)) 39 #[.bool false,.slice none 0 0];simp only[Qc]at this;exact this
 have g3:=g7.cell 0;have g4:=g7.cell 1;have g5:=g7.frozen 0;have g6:=g7.frozen 1;simp at g3 g4;have U:=hL.below u;clear I a3;go_wp2_with fail
 go_region_held3 (λw'=>w'.cell? ⟨w.heap.size,0,none⟩=some (.bool neg)/\w'.cell? ⟨w.heap.size,1,none⟩=some (.slice A n c))
  (((try dsimp only);(repeat' apply Qq);all_goals (first|go_keep|(simp[*,go_sem];done))))
  (first
   | (go_at_call 181;refine(Zh4 _ _ _ _ _ (by exact U) (by omega)).mono ?_;rintro e w2 ⟨v2,rfl,T,f⟩;obtain⟨A2,c2,a2,V⟩:=T.lim;subst a2;clear T;have k0:=Zb f g0;have k1:=Zb f g1;have k3:=Zb f g3;have k4:=Zb f g4;have k5:=Zn f g3 g5;have k6:=Zn f g4 g6;have k7:=Zc f g7)
   | (go_at_call 158;refine(Zb7 _ _ _ _ _ _ (by exact V)).mono ?_;rintro e w3 ⟨h,O,A3,n3,c3,y,rfl,a1⟩;have m0:=Zb h k0;have m1:=Zb h k1;have m3:=Zb h k3;have m4:=Zb h k4;have m5:=Zn h k3 k5;have m6:=Zn h k4 k6;have m7:=Zc h k7))
 have a0:Below w.heap.size w w3:=(u.trans ((Zv f).mono u.size)).trans (h.mono (Qi u.size (Zv f).size))
 have HZ:sg (!neg) (val (digits z.natAbs))=-z:=by
  have h1:=a4.out;rw[Zzg,h1]
 go_wp2
 refine bodyPost_ret (v:=.tuple #[.agg #[.bool O,.slice A3 n3 c3],.int .i64 y]) (by simp[results,Tryz.results183,go_sem,m3,m4]) rfl ?_;exact ResW.box (HZ▸a1) a0 (by omega) m7
def Zda(a b:Int):Int:=if a<b then -1 else if b<a then 1 else 0
theorem Zho(a b:Nat):Zck (digits a) (digits b)=Zda a b:=by
 unfold Zck Zda;rw[Zj,Zj];have h1:a<=b->(digits a).length<=(digits b).length:=Z4;have h2:b<=a->(digits b).length<=(digits a).length:=Z4
 (repeat' split) <;> first|rfl|omega
theorem to_ok(na nb:Bool)(A B:Option Addr)(n c m d:Nat)(za zb:Int)(w:World)(ha:Wd w na A n c za)(hb:Wd w nb B m d zb) :
    Calls Tryz.prog 165 #[.agg #[.bool na,.slice A n c],.agg #[.bool nb,.slice B m d]] w λe w'=>e=.returned (.int .i64 (Zda za zb))/\Below w.heap.size w w':=by
 have C:=ha.lim;have I:=hb.lim;have o:=ha.1;have u:=hb.1;have f:∀ X Y:Obj,Below w.heap.size w ((w.alloc X).alloc Y):=λX Y=>((Qb w.heap.size w).alloc (Qa _) _).alloc (by simp) _;have f:=Za f;have J:=Za (Zho za.natAbs zb.natAbs);have O:=Za (Zho zb.natAbs za.natAbs)
 have hP:Hid (∀ (e:Ending) (w':World),(e=.returned (.int .i64 (Zck (digits za.natAbs) (digits zb.natAbs)))/\Below w.heap.size w w')->(na=false/\nb=false)->e=.returned (.int .i64 (Zda za zb))/\Below w.heap.size w w'):=λe w' ⟨h1,h2⟩ ⟨h3,h4⟩=>by
  subst h3 h4;have h5:¬ za<0:=by intro h;simp[h]at o
  have h6:¬ zb<0:=by intro h;simp[h]at u
  refine⟨?_,h2⟩;rw[h1,J.out,show ((za.natAbs:Nat):Int)=za by omega,show ((zb.natAbs:Nat):Int)=zb by omega]
 have hN:Hid (∀ (e:Ending) (w':World),(e=.returned (.int .i64 (Zck (digits zb.natAbs) (digits za.natAbs)))/\Below w.heap.size w w')->(na=true/\nb=true)->e=.returned (.int .i64 (Zda za zb))/\Below w.heap.size w w'):=λe w' ⟨h1,h2⟩ ⟨h3,h4⟩=>by
  subst h3 h4;have h5:za<0:=by by_cases h:za<0;exact h;simp[h]at o
  have h6:zb<0:=by by_cases h:zb<0;exact h;simp[h]at u
  refine⟨?_,h2⟩;rw[h1,O.out];congr 2;unfold Zda
  split <;> split <;> (try split) <;> omega
 have hM:Hid (∀ b,na=b->nb=!b->Ending.returned (.int .i64 (if b then -1 else 1))=.returned (.int .i64 (Zda za zb))):=λb h3 h4=>by
  refine Zjp ?_;unfold Zda;cases b
  ·have h5:¬ za<0:=by intro h;simp[h,h3]at o
   have h6:zb<0:=by by_cases h:zb<0;exact h;simp[h,h4]at u
   rw[Gw (show ¬ za<zb by omega),Gx (show zb<za by omega)];rfl
  ·have h5:za<0:=by by_cases h:za<0;exact h;simp[h,h3]at o
   have h6:¬ zb<0:=by intro h;simp[h,h4]at u
   rw[Gx (show za<zb by omega)];rfl
 clear ha hb o u;cases na <;> cases nb
 ·go_enter Tryz.func165,Tryz.ntmps165
  go_wp2_with (go_at_call 186;((with_reducible refine(Zcn _ _ _ _ _ _ _ _ _ ((C.alloc _).alloc _) ((I.alloc _).alloc _)).mono ?_));rintro e w1 ⟨rfl,y⟩);go_ret;exact hP.out _ _ ⟨rfl,(f.out _ _).trans (y.mono (by simp;omega))⟩ (by simp)
 ·go_enter Tryz.func165,Tryz.ntmps165
  go_wp2_with fail;go_ret;exact⟨hM.out false rfl rfl,f.out _ _⟩
 ·go_enter Tryz.func165,Tryz.ntmps165
  go_wp2_with fail;go_ret;exact⟨hM.out true rfl rfl,f.out _ _⟩
 ·go_enter Tryz.func165,Tryz.ntmps165
  go_wp2_with (go_at_call 186;((with_reducible refine(Zcn _ _ _ _ _ _ _ _ _ ((I.alloc _).alloc _) ((C.alloc _).alloc _)).mono ?_));rintro e w1 ⟨rfl,y⟩);go_ret;exact hN.out _ _ ⟨rfl,(f.out _ _).trans (y.mono (by simp;omega))⟩ (by simp)
theorem Zqm(na nb:Bool)(A B:Option Addr)(n c m d:Nat)(za zb:Int)(w:World)(ha:Wd w na A n c za)(hb:Wd w nb B m d zb) :
    Calls Tryz.prog 121 #[.agg #[.bool na,.slice A n c],.agg #[.bool nb,.slice B m d]] w λe w'=>e=.returned (.tuple #[.int .i64 (Zda za zb),.int .i64 0])/\Below w.heap.size w w':=by
 have y:=ha.lim;have C:=hb.lim;have o:∀ X Y Z:Obj,Below w.heap.size w (((w.alloc X).alloc Y).alloc Z):=λX Y Z=>(((Qb w.heap.size w).alloc (Qa _) _).alloc (by simp) _).alloc (by simp;omega) _
 have hW:∀ X Y t,WL (((w.alloc X).alloc Y).alloc (.cells #[.bool na,.slice A n c,.bool nb,.slice B m d] t)) (some ⟨w.heap.size+1+1,0,none⟩) 2 2 [⟨na,A,n,c,digits za.natAbs⟩,⟨nb,B,m,d,digits zb.natAbs⟩]:=λX Y t=>by
  have:=WL.two (neg:=na) (neg':=nb) ((y.alloc X).alloc Y) ((C.alloc X).alloc Y) t;simp only[Qc]at this;exact this
 have hW:=Za hW;have o:=Za o;have u:Hid (okW na (digits za.natAbs)=true/\okW nb (digits zb.natAbs)=true):=⟨ha.ok,hb.ok⟩;have J:∀ (fn:Fn) (first cap:Array Value) (w:World),(Instr.makeFunc fn first cap).run Tryz.prog w=.ok (.func fn first cap) w:=λ_ _ _ _=>rfl;have HA:=Za ha;have HB:=Za hb;clear ha hb;go_enter Tryz.func121,Tryz.ntmps121;go_wp2_with fail;refine(Zdc (hW.out _ _ _) (by have:=u.out;simp[WE.ok,this])).mono ?_;rintro e w1 ⟨rfl,h⟩;obtain⟨U,O⟩:=Zdh h;have T:w.heap.size+1+1<w1.heap.size:=by have:=h.size;simp at this;omega
 have f:Below w.heap.size w w1:=(o.out _ _ _).trans (h.mono (by simp;omega));go_wp2_with fail;refine(to_ok na nb A B n c m d za zb _ (HA.out.below f) (HB.out.below f)).mono ?_;rintro e w2 ⟨rfl,I⟩;go_wp2_with fail
 go_ret2
 exact⟨rfl,f.trans (I.mono f.size)⟩
def Zj5(w:World):Value->List Nat
 | .slice (some ad) n _=>(List.range n).map λk=>match w.cell? (ad.add k)with|some (.int _ x)=>x.toNat|_=>0
 | _=>[]
theorem Lim.mem{w:World}{A:Option Addr}{n c:Nat}{l:List Nat}(h:Lim w A n c l):Zj5 w (.slice A n c)=l:=by
 rcases A with _|ad
 ·have hn:n=0:=by
    rcases Qh n with h0|h0;exact h0
    ·obtain⟨b,o,e,_⟩:=h.2.2.2.2 h0
     cases e
  subst hn;exact(List.eq_nil_of_length_eq_zero h.len).symm
 ·unfold Zj5
  apply List.ext_getElem (by simp[h.len]);intro i h1 h2;obtain⟨b,o,e,hc⟩:=h.at_ (k:=i) (by rw[<- h.len];exact h2);injection e with e
  subst e;simp only[List.getElem_map,List.getElem_range,Zg,hc];simp[List.getElem?_eq_getElem h2]
def GcdR(w:World)(t:TypeId)(G:Nat)(xv yv:Value)(wr:World):Prop:=
 ∃ (u v:Nat) (A:Option Addr) (n c:Nat) (B:Option Addr) (m d:Nat),xv=.slice A n c/\yv=.slice B m d/\Lim wr A n c (digits u)/\Lim wr B m d (digits v)/\n<=4096/\m<=4096/\Nat.gcd u v=G/\Blk wr (w.heap.size+1+1) t #[.bool false,.slice none 0 0]/\Below w.heap.size w wr
theorem Zkj(na nb:Bool)(A B:Option Addr)(n c m d:Nat)(za zb:Int)(w:World)(ha:Wd w na A n c za)(hb:Wd w nb B m d zb) :
    Calls Tryz.prog 151 #[.agg #[.bool na,.slice A n c],.agg #[.bool nb,.slice B m d]] w (ResW w (Nat.gcd za.natAbs zb.natAbs:Nat)):=by
 have b4:=ha.lim;have a8:=hb.lim;have hn:=ha.2.1;have hm:=hb.2.1;have a2:∀ X Y Z V:Obj,Below w.heap.size w ((((w.alloc X).alloc Y).alloc Z).alloc V):=λX Y Z V=>((((Qb w.heap.size w).alloc (Qa _) _).alloc (by simp) _).alloc (by simp;omega) _).alloc (by simp;omega) _
 have hW:∀ X Y Z t,WL ((((w.alloc X).alloc Y).alloc Z).alloc (.cells #[.bool na,.slice A n c,.bool nb,.slice B m d] t)) (some ⟨w.heap.size+1+1+1,0,none⟩) 2 2 [⟨na,A,n,c,digits za.natAbs⟩,⟨nb,B,m,d,digits zb.natAbs⟩]:=λX Y Z t=>by
  have:=WL.two (neg:=na) (neg':=nb) (((b4.alloc X).alloc Y).alloc Z) (((a8.alloc X).alloc Y).alloc Z) t;simp only[Qc]at this;exact this
 have hW:=Za hW;have a2:=Za a2;have a3:Hid (okW na (digits za.natAbs)=true/\okW nb (digits zb.natAbs)=true):=⟨ha.ok,hb.ok⟩;clear ha hb;generalize za.natAbs=va at *;generalize zb.natAbs=vb at *;obtain⟨G,hG⟩:=Gz (Nat.gcd va vb);rw[hG];replace hG:=Za hG;go_enter Tryz.func151,Tryz.ntmps151;go_wp2_with fail;refine(Zdc (hW.out _ _ _ _) (by have:=a3.out;simp[WE.ok,this])).mono ?_;rintro e w1 ⟨rfl,O⟩;obtain⟨a6,c4⟩:=Zdh O;have d4:w.heap.size+1+1+1<w1.heap.size:=by have:=O.size;simp at this;omega
 have T:Below w.heap.size w w1:=(a2.out _ _ _ _).trans (O.mono (by simp;omega));have g1:w1.cell? ⟨w.heap.size,1,none⟩=some (.slice A n c):=by simp[a6,go_sem]
 have g2:w1.cell? ⟨w.heap.size+1,1,none⟩=some (.slice B m d):=by simp[a6,go_sem]
 have g7:Blk w1 (w.heap.size+1+1) 39 #[.bool false,.slice none 0 0]:=by
  refine Zc O (Blk.alloc ?_ _);have:=Qe ((w.alloc (.cells #[.bool na,.slice A n c] 39)).alloc (.cells #[.bool nb,.slice B m d] 39)) 39 #[.bool false,.slice none 0 0];simp only[Qc]at this;exact this
 have U:=b4.below T;have b2:=a8.below T;replace g7:=Za g7;clear a6 c4;go_wp2_with fail
 go_region_held3 (λw'=>w'.cell? ⟨w.heap.size,1,none⟩=some (.slice A n c)/\w'.cell? ⟨w.heap.size+1,1,none⟩=some (.slice B m d))
  (((try dsimp only);(repeat' apply Qq);all_goals (first|go_keep|(simp[*,go_sem];done))))
  ((go_at_call 181;refine(Zh4 _ _ _ _ _ (by exact U) (by omega)).mono ?_;rintro e w2 ⟨v2,rfl,b7,a5⟩;obtain⟨A2,c2,b5,b1⟩:=b7.lim;rw[U.len]at b5 b1;subst b5;clear b7;have k1:=Zb a5 g1;have k2:=Zb a5 g2))
 have y:=Zv a5;have c3:Below w.heap.size w w2:=T.trans (y.mono T.size);have m7:Hid (Blk w2 (w.heap.size+1+1) 39 #[.bool false,.slice none 0 0]):=Zc y g7.out;have b3:=b2.below y;go_wp2_with fail
 go_loopw [7,8] (λxv yv wr=>GcdR w 39 G xv yv wr) (λ_ yv wr=>val (Zj5 wr yv))
 case atStart=>exact⟨va,vb,_,_,_,_,_,_,rfl,rfl,b1,b3,hn,hm,hG.out,m7.out,c3⟩
 case round =>
  obtain⟨u,v,A5,n5,c5,B5,m5,d5,rfl,rfl,a1,o,d0,c1,hg,C,J⟩:=hrel;replace hg:=Za hg;replace C:=Za C;by_cases hm0:0<m5
  ·have I:0<v:=by rw[<- o.len]at hm0;exact length_digits_pos.1 hm0
   have b8:=Za o.mem;go_wp2_with fail;refine(Zg0 _ _ _ _ _ _ u v _ a1 o (by omega) I).mono ?_;rintro e w5 ⟨A6,n6,c6,B6,m6,d6,rfl,d3,a0,f⟩;go_wp2_with fail
   go_roundw
   case rel=>exact⟨v,u%v,_,_,_,_,_,_,rfl,rfl,o.below f,a0,c1,by have:=Z4 (Qm (Qd u I));rw[a0.len,o.len]at this;omega,by rw[<- hg.out,Nat.gcd_comm u v,Nat.gcd_rec v u,Nat.gcd_comm],Zc f C.out,J.trans (f.mono J.size)⟩
   case measure=>simp only[b8.out,a0.mem,Zj];exact Qd u I
  ·obtain rfl:m5=0:=by omega
   have I:v=0:=by
    rcases Qh v with h|h;exact h;have:=length_digits_pos.2 h;rw[o.len]at this;omega
   subst I;have c0:Hid (u=G):=by have:=hg.out;rw[Nat.gcd_zero_right]at this;exact this
   have g8:=C.out;have g3:=g8.cell 0;have g4:=g8.cell 1;have g5:=g8.frozen 0;have g6:=g8.frozen 1;simp at g3 g4;clear g8;go_wp2_with fail;refine(Zh4 _ _ _ _ _ a1 (by omega)).mono ?_;rintro e w5 ⟨v5,rfl,c9,f⟩;obtain⟨A6,c6,b6,a7⟩:=c9.lim;rw[a1.len]at b6 a7;subst b6;go_wp2_with fail;refine(Zb7 _ _ _ _ _ _ a7).mono ?_;rintro e w6 ⟨a9,b0,A7,n7,c7,a4,rfl,b9⟩;have c8:Below w.heap.size w w6:=(J.trans (f.mono J.size)).trans (a9.mono (Qi J.size f.size));have m8:=Zc a9 (Zc f C.out);have m3:=m8.cell 0;have m4:=m8.cell 1;have m5:=m8.frozen 0;have m6:=m8.frozen 1;simp at m3 m4;replace m8:=Za m8;go_wp2_with fail;have HZ:sg false (val (digits u))=(G:Int):=by rw[Zj,c0.out];rfl
   refine bodyPost_ret (v:=.tuple #[.agg #[.bool b0,.slice A7 n7 c7],.int .i64 a4]) (by simp[results,Tryz.results151,go_sem,m3,m4]) rfl ?_;exact ResW.box (HZ▸b9) c8 (by omega) m8.out
theorem Gcd_bad(na nb:Bool)(A B:Option Addr)(n c m d:Nat)(la lb:List Nat)(w:World)(hLa:Lim w A n c la)(hLb:Lim w B m d lb)(f:(okW na la && okW nb lb)=false) :
    Calls Tryz.prog 151 #[.agg #[.bool na,.slice A n c],.agg #[.bool nb,.slice B m d]] w (BadW w):=by
 have o:∀ X Y Z V:Obj,Below w.heap.size w ((((w.alloc X).alloc Y).alloc Z).alloc V):=λX Y Z V=>((((Qb w.heap.size w).alloc (Qa _) _).alloc (by simp) _).alloc (by simp;omega) _).alloc (by simp;omega) _
 have hW:∀ X Y Z t,WL ((((w.alloc X).alloc Y).alloc Z).alloc (.cells #[.bool na,.slice A n c,.bool nb,.slice B m d] t)) (some ⟨w.heap.size+1+1+1,0,none⟩) 2 2 [⟨na,A,n,c,la⟩,⟨nb,B,m,d,lb⟩]:=λX Y Z t=>by
  have:=WL.two (neg:=na) (neg':=nb) (((hLa.alloc X).alloc Y).alloc Z) (((hLb.alloc X).alloc Y).alloc Z) t;simp only[Qc]at this;exact this
 have hW:=Za hW;have o:=Za o;have f:=Za f;go_enter Tryz.func151,Tryz.ntmps151;go_wp2_with fail;refine(Zxh (hW.out _ _ _ _) (by have:=f.out;simpa [WE.ok]using this)).mono ?_;rintro e w1 ⟨rfl,h⟩;obtain⟨u,I⟩:=Zdh h;have J:w.heap.size+1+1+1<w1.heap.size:=by have:=h.size;simp at this;omega
 have y:Below w.heap.size w w1:=(o.out _ _ _ _).trans (h.mono (by simp;omega));go_wp2_with fail;have hg:w1.cell? ⟨w.heap.size+1+1,0,none⟩=some (.bool false):=by simp[u,go_sem]
 have C:w1.cell? ⟨w.heap.size+1+1,1,none⟩=some (.slice none 0 0):=by simp[u,go_sem]
 refine bodyPost_ret (v:=.tuple #[.agg #[.bool false,.slice none 0 0],.int .i64 8]) (by simp[results,Tryz.results151,go_sem,hg,C]) rfl ?_;exact⟨rfl,(y.setCell (p:=⟨w.heap.size+1+1,0,none⟩) (by simp;omega) _).setCell (p:=⟨w.heap.size+1+1,1,none⟩) (by simp;omega) _⟩
theorem fdm{z d q r:Int}(h:z=d*q+r)(hr:(0<=r/\r<d) \/ (d<r/\r<=0)):Qk z d=q/\Ql z d=r:=by
 rcases hr with ⟨h1,h2⟩|⟨h1,h2⟩;exact(Int.fdiv_fmod_unique (by omega)).2 ⟨by omega,h1,h2⟩;exact(Int.fdiv_fmod_unique' (by omega)).2 ⟨by omega,by omega,h2⟩
theorem Zh2(na nb:Bool)(U V:Nat)(hV:0<V)(h:U%V=0 \/ na=nb):Qk (sg na U) (sg nb V)=sg (na != nb) (U/V:Nat)/\Ql (sg na U) (sg nb V)=sg nb (U%V:Nat):=by
 have h1:=Qr U V;have h2:=Qd U hV;generalize U/V=x at *;generalize U%V=y at *;subst h1;have e:((V*x+y:Nat):Int)=(V:Int)*x+y:=by push_cast;rfl
 apply fdm
 ·cases na <;> cases nb <;> simp only[sg,e] <;> simp at h ⊢ <;> grind
 ·cases na <;> cases nb <;> simp[sg]at h ⊢ <;> omega
theorem Zob(na nb:Bool)(U V:Nat)(hV:0<V)(hy:0<U%V)(h:na≠nb):Qk (sg na U) (sg nb V)=sg (na != nb) (U/V+1:Nat)/\Ql (sg na U) (sg nb V)=sg nb (V-U%V:Nat):=by
 have h1:=Qr U V;have h2:=Qd U hV;generalize U/V=x at *;generalize U%V=y at *;subst h1;have e:((V*x+y:Nat):Int)=(V:Int)*x+y:=by push_cast;rfl
 have e2:((V-y:Nat):Int)=(V:Int)-y:=by omega
 apply fdm
 ·cases na <;> cases nb <;> simp only[sg,e,e2] <;> simp at h ⊢ <;> grind
 ·cases na <;> cases nb <;> simp[sg]at h ⊢ <;> omega
def Zj0(w:World)(za zb:Int)(e:Ending)(w':World):Prop:=
 Below w.heap.size w w'/\∃ nq Aq kq cq nr Ar kr cr,e=.returned (.tuple #[.agg #[.bool nq,.slice Aq kq cq],.agg #[.bool nr,.slice Ar kr cr],.int .i64 0])/\Wd w' nq Aq kq cq (Qk za zb)/\Wd w' nr Ar kr cr (Ql za zb)
theorem Zrx(na nb:Bool)(A B:Option Addr)(n c m d:Nat)(za zb:Int)(w:World)(ha:Wd w na A n c za)(hb:Wd w nb B m d zb)(h0:zb≠0)(hy:za.natAbs%zb.natAbs=0) :
    Calls Tryz.prog 184 #[.agg #[.bool na,.slice A n c],.agg #[.bool nb,.slice B m d]] w (Zj0 w za zb):=by
 have d4:=ha.lim;have a1:=hb.lim;have hn:=ha.2.1;have hm:=hb.2.1;have f0:=a1.2.2.1;have h3:=a1.2.1;unfold maxLen at f0;have b6:∀ X Y Z V U:Obj,Below w.heap.size w (((((w.alloc X).alloc Y).alloc Z).alloc V).alloc U):=λX Y Z V U=>(((((Qb w.heap.size w).alloc (Qa _) _).alloc (by simp) _).alloc (by simp;omega) _).alloc (by simp;omega) _).alloc (by simp;omega) _
 have hW:∀ X Y Z V t,WL (((((w.alloc X).alloc Y).alloc Z).alloc V).alloc (.cells #[.bool na,.slice A n c,.bool nb,.slice B m d] t)) (some ⟨w.heap.size+1+1+1+1,0,none⟩) 2 2 [⟨na,A,n,c,digits za.natAbs⟩,⟨nb,B,m,d,digits zb.natAbs⟩]:=λX Y Z V t=>by
  have:=WL.two (neg:=na) (neg':=nb) ((((d4.alloc X).alloc Y).alloc Z).alloc V) ((((a1.alloc X).alloc Y).alloc Z).alloc V) t;simp only[Qc]at this;exact this
 have hW:=Za hW;have b6:=Za b6;have b8:Hid (okW na (digits za.natAbs)=true/\okW nb (digits zb.natAbs)=true):=⟨ha.ok,hb.ok⟩;have c4:=ha.sgEq;have c3:=hb.sgEq;rw[Zj]at c4 c3;have hU:=ha.small;have hV:=hb.small;clear ha hb;have a8:0<zb.natAbs:=by omega
 have h1:0<m:=by rw[<- a1.len];exact length_digits_pos.2 a8
 have g6:((m:Int) == 0)=false:=by simp;omega
 obtain⟨T,a3⟩:=Zh2 na nb za.natAbs zb.natAbs a8 (Or.inl hy);rw[c4,c3]at T a3;clear c4 c3 h0;generalize za.natAbs=U at *;generalize zb.natAbs=V at *;have d6:(sg (na != nb) (U/V)).natAbs<pw 4096:=by rw[Zab];exact Qw (Qs _ _) hU
 have d9:(sg nb (U%V)).natAbs<pw 4096:=by rw[Zab];exact Qv (Qd _ a8) hV
 rw[<- T]at d6;rw[<- a3]at d9;have hfin:Hid (∀ (e:Ending) (w':World),(Below w.heap.size w w'/\∃ nq Aq kq cq nr Ar kr cr,e=.returned (.tuple #[.agg #[.bool nq,.slice Aq kq cq],.agg #[.bool nr,.slice Ar kr cr],.int .i64 0])/\Wd w' nq Aq kq cq (Qk za zb)/\Wd w' nr Ar kr cr (Ql za zb))->Zj0 w za zb e w'):=λ_ _ h=>h;generalize Qk za zb=ZQ at *;generalize Ql za zb=ZR at *;replace T:=Za T;replace a3:=Za a3;replace hy:=Za hy;go_enter Tryz.func184,Tryz.ntmps184;go_wp2_with fail;refine(Zdc (hW.out _ _ _ _ _) (by have:=b8.out;simp[WE.ok,this])).mono ?_;rintro e w1 ⟨rfl,a0⟩;obtain⟨a2,f5⟩:=Zdh a0;have h4:w.heap.size+1+1+1+1<w1.heap.size:=by have:=a0.size;simp at this;omega
 have a7:Below w.heap.size w w1:=(b6.out _ _ _ _ _).trans (a0.mono (by simp;omega));have g0:w1.cell? ⟨w.heap.size,0,none⟩=some (.bool na):=by simp[a2,go_sem]
 have g1:w1.cell? ⟨w.heap.size,1,none⟩=some (.slice A n c):=by simp[a2,go_sem]
 have g2:w1.cell? ⟨w.heap.size+1,0,none⟩=some (.bool nb):=by simp[a2,go_sem]
 have g3:w1.cell? ⟨w.heap.size+1,1,none⟩=some (.slice B m d):=by simp[a2,go_sem]
 have bq:Hid (Blk w1 (w.heap.size+1+1) 39 #[.bool false,.slice none 0 0]):=by
  refine Zc a0 (Blk.alloc (Blk.alloc ?_ _) _);have:=Qe ((w.alloc (.cells #[.bool na,.slice A n c] 39)).alloc (.cells #[.bool nb,.slice B m d] 39)) 39 #[.bool false,.slice none 0 0];simp only[Qc]at this;exact this
 have br:Hid (Blk w1 (w.heap.size+1+1+1) 39 #[.bool false,.slice none 0 0]):=by
  refine Zc a0 (Blk.alloc ?_ _);have:=Qe (((w.alloc (.cells #[.bool na,.slice A n c] 39)).alloc (.cells #[.bool nb,.slice B m d] 39)).alloc (.cells #[.bool false,.slice none 0 0] 39)) 39 #[.bool false,.slice none 0 0];simp only[Qc]at this;exact this
 have c9:=d4.below a7;have d3:=a1.below a7;clear a2 f5;go_wp2_with fail;refine(Zg0 _ _ _ _ _ _ U V _ c9 d3 (by omega) a8).mono ?_;rintro e w2 ⟨A2,n2,c2,B2,m2,d2,rfl,e7,a5,O⟩;have d5:Below w.heap.size w w2:=a7.trans (O.mono a7.size);have c8:=a5.2.2.1;have g7:=a5.2.1;unfold maxLen at c8;have g5:=Zb O g0;have e2:=Zb O g1;have f6:=Zb O g2;have e1:=Zb O g3;have e5:Hid (Blk _ _ _ _):=Zc O bq.out;have e4:Hid (Blk _ _ _ _):=Zc O br.out
 have e3:m2=0:=by
  rcases Qh m2 with h|h;exact h;rw[<- a5.len]at h;have:=length_digits_pos.1 h;have:=hy.out;omega
 subst e3;go_wp2_with fail;refine(Zb7 _ _ _ _ _ _ e7).mono ?_;rintro e w5 ⟨I,f,A5,n5,c5,b9,rfl,b5⟩;have e8:Below w.heap.size w w5:=d5.trans (I.mono d5.size);have h5:=Zb I g5;have h2:=Zb I e2;have g8:=Zb I f6;have g9:=Zb I e1;have u:Hid (Blk _ _ _ _):=Zc I e5.out;have e0:Hid (Blk _ _ _ _):=Zc I e4.out;change ResP w5 (sg (na != nb) _) f A5 n5 c5 b9 at b5;rw[Zj,<- T.out]at b5;rcases b5 with ⟨-,rfl,a6⟩|⟨d0,-⟩
 case inr=>exact absurd d6 (by omega)
 have q1:=u.out.cell 0;have q2:=u.out.cell 1;have q3:=u.out.frozen 0;have q4:=u.out.frozen 1;simp at q1 q2;go_wp2_with fail;generalize hw6:(w5.setCell ⟨w.heap.size+1+1,0,none⟩ (.bool f)).setCell ⟨w.heap.size+1+1,1,none⟩ (.slice A5 n5 c5)=w6;have f3:Hid (Blk w6 (w.heap.size+1+1) 39 #[.bool f,.slice A5 n5 c5]):=by rw[<- hw6];exact(u.out.set_ 0 _).set_ 1 _
 have f9:Hid (Blk w6 (w.heap.size+1+1+1) 39 #[.bool false,.slice none 0 0]):=by rw[<- hw6];exact(e0.out.far (by simp <;> omega) _).far (by simp <;> omega) _
 have d8:Below w.heap.size w w6:=by rw[<- hw6];exact(e8.setCell (p:=⟨w.heap.size+1+1,0,none⟩) (by simp <;> omega) _).setCell (p:=⟨w.heap.size+1+1,1,none⟩) (by simp <;> omega) _
 have f8:Wd w6 f A5 n5 c5 ZQ:=by
  rw[<- hw6];exact⟨a6.1,a6.2.1,Lim.set_box (Lim.set_box a6.2.2 u.out (NoLimb.box _ _ _ _) 0 _) (u.out.set_ 0 _) (NoLimb.box _ _ _ _) 1 _⟩
 have d7:Lim w6 B2 0 d2 (digits (U%V)):=by
  rw[<- hw6];exact Lim.set_box (Lim.set_box (a5.below I) u.out (NoLimb.box _ _ _ _) 0 _) (u.out.set_ 0 _) (NoLimb.box _ _ _ _) 1 _
 clear hw6 q1 q2 q3 q4 a6;refine(Zb7 _ _ _ _ _ _ d7).mono ?_;rintro e w7 ⟨a4,o,A7,n7,c7,f7,rfl,c6⟩;have e6:Below w.heap.size w w7:=d8.trans (a4.mono d8.size);have e9:Hid (Blk w7 (w.heap.size+1+1) 39 #[.bool f,.slice A5 n5 c5]):=Zc a4 f3.out;have C:Hid (Blk w7 (w.heap.size+1+1+1) 39 #[.bool false,.slice none 0 0]):=Zc a4 f9.out;rw[Zj,<- a3.out]at c6;rcases c6 with ⟨-,rfl,b7⟩|⟨d0,-⟩
 case inr=>exact absurd d9 (by omega)
 have r1:=C.out.cell 0;have r2:=C.out.cell 1;have r3:=C.out.frozen 0;have r4:=C.out.frozen 1;simp at r1 r2;go_wp2_with fail;generalize hw8:(w7.setCell ⟨w.heap.size+1+1+1,0,none⟩ (.bool o)).setCell ⟨w.heap.size+1+1+1,1,none⟩ (.slice A7 n7 c7)=w8;have y:Blk w8 (w.heap.size+1+1) 39 #[.bool f,.slice A5 n5 c5]:=by rw[<- hw8];exact(e9.out.far (by simp <;> omega) _).far (by simp <;> omega) _
 have J:Blk w8 (w.heap.size+1+1+1) 39 #[.bool o,.slice A7 n7 c7]:=by rw[<- hw8];exact(C.out.set_ 0 _).set_ 1 _
 have g4:Below w.heap.size w w8:=by rw[<- hw8];exact(e6.setCell (p:=⟨w.heap.size+1+1+1,0,none⟩) (by simp <;> omega) _).setCell (p:=⟨w.heap.size+1+1+1,1,none⟩) (by simp <;> omega) _
 have b0:Wd w8 f A5 n5 c5 ZQ:=by
  rw[<- hw8];have c1:=f8.below a4;exact⟨c1.1,c1.2.1,Lim.set_box (Lim.set_box c1.2.2 C.out (NoLimb.box _ _ _ _) 0 _) (C.out.set_ 0 _) (NoLimb.box _ _ _ _) 1 _⟩
 have c0:Wd w8 o A7 n7 c7 ZR:=by
  rw[<- hw8];exact⟨b7.1,b7.2.1,Lim.set_box (Lim.set_box b7.2.2 C.out (NoLimb.box _ _ _ _) 0 _) (C.out.set_ 0 _) (NoLimb.box _ _ _ _) 1 _⟩
 have s1:=y.cell 0;have s2:=y.cell 1;have s3:=y.frozen 0;have s4:=y.frozen 1;have s5:=J.cell 0;have s6:=J.cell 1;have s7:=J.frozen 0;have s8:=J.frozen 1;simp at s1 s2 s5 s6;replace y:=Za y;replace J:=Za J;clear hw8 r1 r2 r3 r4
 go_region
 go_wp2
 generalize hw9:((((w8.setCell ⟨w.heap.size+1+1,0,none⟩ (.bool f)).setCell ⟨w.heap.size+1+1,1,none⟩ (.slice A5 n5 c5)).setCell ⟨w.heap.size+1+1+1,0,none⟩ (.bool o)).setCell ⟨w.heap.size+1+1+1,1,none⟩ (.slice A7 n7 c7)).drew=w9;have b1:=(y.out.set_ 0 (.bool f)).set_ 1 (.slice A5 n5 c5);have b2:=(J.out.far (p:=⟨w.heap.size+1+1,0,none⟩) (by simp <;> omega) (.bool f)).far (p:=⟨w.heap.size+1+1,1,none⟩) (by simp <;> omega) (.slice A5 n5 c5);have b3:Blk w9 (w.heap.size+1+1) 39 #[.bool f,.slice A5 n5 c5]:=by rw[<- hw9];exact(b1.far (by simp <;> omega) _).far (by simp <;> omega) _
 have b4:Blk w9 (w.heap.size+1+1+1) 39 #[.bool o,.slice A7 n7 c7]:=by rw[<- hw9];exact(b2.set_ 0 _).set_ 1 _
 have f4:Below w.heap.size w w9:=by rw[<- hw9];exact Zf ((((g4.setCell (p:=⟨w.heap.size+1+1,0,none⟩) (by simp <;> omega) _).setCell (p:=⟨w.heap.size+1+1,1,none⟩) (by simp <;> omega) _).setCell (p:=⟨w.heap.size+1+1+1,0,none⟩) (by simp <;> omega) _).setCell (p:=⟨w.heap.size+1+1+1,1,none⟩) (by simp <;> omega) _) 1
 have a9:∀ (A:Option Addr) (n c:Nat) (l:List Nat),Lim w8 A n c l->Lim w9 A n c l:=λA n c l h=>by
  rw[<- hw9];exact Lim.set_box (Lim.set_box (Lim.set_box (Lim.set_box h y.out (NoLimb.box _ _ _ _) 0 _) (y.out.set_ 0 _) (NoLimb.box _ _ _ _) 1 _) b2 (NoLimb.box _ _ _ _) 0 _) (b2.set_ 0 _) (NoLimb.box _ _ _ _) 1 _
 have t1:=b3.cell 0;have t2:=b3.cell 1;have t3:=b4.cell 0;have t4:=b4.cell 1;simp at t1 t2 t3 t4;refine bodyPost_ret (v:=.tuple #[.agg #[.bool f,.slice A5 n5 c5],.agg #[.bool o,.slice A7 n7 c7],.int .i64 0]) (by simp[results,Tryz.results184,go_sem,t1,t2,t3,t4]) rfl ?_;exact hfin.out _ _ ⟨f4,_,_,_,_,_,_,_,_,rfl,⟨b0.1,b0.2.1,a9 _ _ _ _ b0.2.2⟩,⟨c0.1,c0.2.1,a9 _ _ _ _ c0.2.2⟩⟩
theorem Zsm(na nb:Bool)(A B:Option Addr)(n c m d:Nat)(za zb:Int)(w:World)(ha:Wd w na A n c za)(hb:Wd w nb B m d zb)(h0:zb≠0)(hy:0<za.natAbs%zb.natAbs)(hs:na=nb) :
    Calls Tryz.prog 184 #[.agg #[.bool na,.slice A n c],.agg #[.bool nb,.slice B m d]] w (Zj0 w za zb):=by
 have d4:=ha.lim;have a1:=hb.lim;have hn:=ha.2.1;have hm:=hb.2.1;have f0:=a1.2.2.1;have h5:=a1.2.1;unfold maxLen at f0;have b6:∀ X Y Z V U:Obj,Below w.heap.size w (((((w.alloc X).alloc Y).alloc Z).alloc V).alloc U):=λX Y Z V U=>(((((Qb w.heap.size w).alloc (Qa _) _).alloc (by simp) _).alloc (by simp;omega) _).alloc (by simp;omega) _).alloc (by simp;omega) _
 have hW:∀ X Y Z V t,WL (((((w.alloc X).alloc Y).alloc Z).alloc V).alloc (.cells #[.bool na,.slice A n c,.bool nb,.slice B m d] t)) (some ⟨w.heap.size+1+1+1+1,0,none⟩) 2 2 [⟨na,A,n,c,digits za.natAbs⟩,⟨nb,B,m,d,digits zb.natAbs⟩]:=λX Y Z V t=>by
  have:=WL.two (neg:=na) (neg':=nb) ((((d4.alloc X).alloc Y).alloc Z).alloc V) ((((a1.alloc X).alloc Y).alloc Z).alloc V) t;simp only[Qc]at this;exact this
 have hW:=Za hW;have b6:=Za b6;have b8:Hid (okW na (digits za.natAbs)=true/\okW nb (digits zb.natAbs)=true):=⟨ha.ok,hb.ok⟩;have c3:=ha.sgEq;have c1:=hb.sgEq;rw[Zj]at c3 c1;have hU:=ha.small;have hV:=hb.small;clear ha hb;have a8:0<zb.natAbs:=by omega
 have h3:0<m:=by rw[<- a1.len];exact length_digits_pos.2 a8
 have g7:((m:Int) == 0)=false:=by simp;omega
 obtain⟨T,a3⟩:=Zh2 na nb za.natAbs zb.natAbs a8 (Or.inr hs);rw[c3,c1]at T a3;clear c3 c1 h0;generalize za.natAbs=U at *;generalize zb.natAbs=V at *;have d6:(sg (na != nb) (U/V)).natAbs<pw 4096:=by rw[Zab];exact Qw (Qs _ _) hU
 have d9:(sg nb (U%V)).natAbs<pw 4096:=by rw[Zab];exact Qv (Qd _ a8) hV
 rw[<- T]at d6;rw[<- a3]at d9;have hfin:Hid (∀ (e:Ending) (w':World),(Below w.heap.size w w'/\∃ nq Aq kq cq nr Ar kr cr,e=.returned (.tuple #[.agg #[.bool nq,.slice Aq kq cq],.agg #[.bool nr,.slice Ar kr cr],.int .i64 0])/\Wd w' nq Aq kq cq (Qk za zb)/\Wd w' nr Ar kr cr (Ql za zb))->Zj0 w za zb e w'):=λ_ _ h=>h;generalize Qk za zb=ZQ at *;generalize Ql za zb=ZR at *;replace T:=Za T;replace a3:=Za a3;subst hs;have e2:(na != na)=false:=by simp
 go_enter Tryz.func184,Tryz.ntmps184;go_wp2_with fail;refine(Zdc (hW.out _ _ _ _ _) (by have:=b8.out;simp[WE.ok,this])).mono ?_;rintro e w1 ⟨rfl,a0⟩;obtain⟨a2,f5⟩:=Zdh a0;have h6:w.heap.size+1+1+1+1<w1.heap.size:=by have:=a0.size;simp at this;omega
 have a7:Below w.heap.size w w1:=(b6.out _ _ _ _ _).trans (a0.mono (by simp;omega));have g0:w1.cell? ⟨w.heap.size,0,none⟩=some (.bool na):=by simp[a2,go_sem]
 have g1:w1.cell? ⟨w.heap.size,1,none⟩=some (.slice A n c):=by simp[a2,go_sem]
 have g2:w1.cell? ⟨w.heap.size+1,0,none⟩=some (.bool na):=by simp[a2,go_sem]
 have g3:w1.cell? ⟨w.heap.size+1,1,none⟩=some (.slice B m d):=by simp[a2,go_sem]
 have bq:Hid (Blk w1 (w.heap.size+1+1) 39 #[.bool false,.slice none 0 0]):=by
  refine Zc a0 (Blk.alloc (Blk.alloc ?_ _) _);have:=Qe ((w.alloc (.cells #[.bool na,.slice A n c] 39)).alloc (.cells #[.bool na,.slice B m d] 39)) 39 #[.bool false,.slice none 0 0];simp only[Qc]at this;exact this
 have br:Hid (Blk w1 (w.heap.size+1+1+1) 39 #[.bool false,.slice none 0 0]):=by
  refine Zc a0 (Blk.alloc ?_ _);have:=Qe (((w.alloc (.cells #[.bool na,.slice A n c] 39)).alloc (.cells #[.bool na,.slice B m d] 39)).alloc (.cells #[.bool false,.slice none 0 0] 39)) 39 #[.bool false,.slice none 0 0];simp only[Qc]at this;exact this
 have c9:=d4.below a7;have d3:=a1.below a7;clear a2 f5;go_wp2_with fail;refine(Zg0 _ _ _ _ _ _ U V _ c9 d3 (by omega) a8).mono ?_;rintro e w2 ⟨A2,n2,c2,B2,m2,d2,rfl,e7,a5,O⟩;have d5:Below w.heap.size w w2:=a7.trans (O.mono a7.size);have c8:=a5.2.2.1;have g8:=a5.2.1;unfold maxLen at c8;have g6:=Zb O g0;have e3:=Zb O g1;have f6:=Zb O g2;have e1:=Zb O g3;have e5:Hid (Blk _ _ _ _):=Zc O bq.out;have e4:Hid (Blk _ _ _ _):=Zc O br.out;have h1:0<m2:=by rw[<- a5.len];exact length_digits_pos.2 hy
 go_wp2_with fail;refine(Zb7 _ _ _ _ _ _ e7).mono ?_;rintro e w5 ⟨I,f,A5,n5,c5,f7,rfl,c4⟩;have e8:Below w.heap.size w w5:=d5.trans (I.mono d5.size);have h7:=Zb I g6;have h4:=Zb I e3;have g9:=Zb I f6;have h2:=Zb I e1;have u:Hid (Blk _ _ _ _):=Zc I e5.out;have e0:Hid (Blk _ _ _ _):=Zc I e4.out;have b0:=T.out;rw[e2]at b0;rw[Zj,<- b0]at c4;rcases c4 with ⟨-,rfl,a6⟩|⟨d0,-⟩
 case inr=>exact absurd d6 (by omega)
 have q1:=u.out.cell 0;have q2:=u.out.cell 1;have q3:=u.out.frozen 0;have q4:=u.out.frozen 1;simp at q1 q2;go_wp2_with fail;generalize hw6:(w5.setCell ⟨w.heap.size+1+1,0,none⟩ (.bool f)).setCell ⟨w.heap.size+1+1,1,none⟩ (.slice A5 n5 c5)=w6;have f3:Hid (Blk w6 (w.heap.size+1+1) 39 #[.bool f,.slice A5 n5 c5]):=by rw[<- hw6];exact(u.out.set_ 0 _).set_ 1 _
 have g4:Hid (Blk w6 (w.heap.size+1+1+1) 39 #[.bool false,.slice none 0 0]):=by rw[<- hw6];exact(e0.out.far (by simp <;> omega) _).far (by simp <;> omega) _
 have d8:Below w.heap.size w w6:=by rw[<- hw6];exact(e8.setCell (p:=⟨w.heap.size+1+1,0,none⟩) (by simp <;> omega) _).setCell (p:=⟨w.heap.size+1+1,1,none⟩) (by simp <;> omega) _
 have f9:Wd w6 f A5 n5 c5 ZQ:=by
  rw[<- hw6];exact⟨a6.1,a6.2.1,Lim.set_box (Lim.set_box a6.2.2 u.out (NoLimb.box _ _ _ _) 0 _) (u.out.set_ 0 _) (NoLimb.box _ _ _ _) 1 _⟩
 have d7:Lim w6 B2 m2 d2 (digits (U%V)):=by
  rw[<- hw6];exact Lim.set_box (Lim.set_box (a5.below I) u.out (NoLimb.box _ _ _ _) 0 _) (u.out.set_ 0 _) (NoLimb.box _ _ _ _) 1 _
 clear hw6 q1 q2 q3 q4 a6;refine(Zb7 _ _ _ _ _ _ d7).mono ?_;rintro e w7 ⟨a4,o,A7,n7,c7,f8,rfl,c6⟩;have e6:Below w.heap.size w w7:=d8.trans (a4.mono d8.size);have e9:Hid (Blk w7 (w.heap.size+1+1) 39 #[.bool f,.slice A5 n5 c5]):=Zc a4 f3.out;have C:Hid (Blk w7 (w.heap.size+1+1+1) 39 #[.bool false,.slice none 0 0]):=Zc a4 g4.out;rw[Zj,<- a3.out]at c6;rcases c6 with ⟨-,rfl,b7⟩|⟨d0,-⟩
 case inr=>exact absurd d9 (by omega)
 have r1:=C.out.cell 0;have r2:=C.out.cell 1;have r3:=C.out.frozen 0;have r4:=C.out.frozen 1;simp at r1 r2;go_wp2_with fail;generalize hw8:(w7.setCell ⟨w.heap.size+1+1+1,0,none⟩ (.bool o)).setCell ⟨w.heap.size+1+1+1,1,none⟩ (.slice A7 n7 c7)=w8;have y:Blk w8 (w.heap.size+1+1) 39 #[.bool f,.slice A5 n5 c5]:=by rw[<- hw8];exact(e9.out.far (by simp <;> omega) _).far (by simp <;> omega) _
 have J:Blk w8 (w.heap.size+1+1+1) 39 #[.bool o,.slice A7 n7 c7]:=by rw[<- hw8];exact(C.out.set_ 0 _).set_ 1 _
 have g5:Below w.heap.size w w8:=by rw[<- hw8];exact(e6.setCell (p:=⟨w.heap.size+1+1+1,0,none⟩) (by simp <;> omega) _).setCell (p:=⟨w.heap.size+1+1+1,1,none⟩) (by simp <;> omega) _
 have b5:Wd w8 f A5 n5 c5 ZQ:=by
  rw[<- hw8];have c0:=f9.below a4;exact⟨c0.1,c0.2.1,Lim.set_box (Lim.set_box c0.2.2 C.out (NoLimb.box _ _ _ _) 0 _) (C.out.set_ 0 _) (NoLimb.box _ _ _ _) 1 _⟩
 have b9:Wd w8 o A7 n7 c7 ZR:=by
  rw[<- hw8];exact⟨b7.1,b7.2.1,Lim.set_box (Lim.set_box b7.2.2 C.out (NoLimb.box _ _ _ _) 0 _) (C.out.set_ 0 _) (NoLimb.box _ _ _ _) 1 _⟩
 have s1:=y.cell 0;have s2:=y.cell 1;have s3:=y.frozen 0;have s4:=y.frozen 1;have s5:=J.cell 0;have s6:=J.cell 1;have s7:=J.frozen 0;have s8:=J.frozen 1;simp at s1 s2 s5 s6;replace y:=Za y;replace J:=Za J;clear hw8 r1 r2 r3 r4
 go_region
 go_wp2
 generalize hw9:((((w8.setCell ⟨w.heap.size+1+1,0,none⟩ (.bool f)).setCell ⟨w.heap.size+1+1,1,none⟩ (.slice A5 n5 c5)).setCell ⟨w.heap.size+1+1+1,0,none⟩ (.bool o)).setCell ⟨w.heap.size+1+1+1,1,none⟩ (.slice A7 n7 c7)).drew=w9;have b1:=(y.out.set_ 0 (.bool f)).set_ 1 (.slice A5 n5 c5);have b2:=(J.out.far (p:=⟨w.heap.size+1+1,0,none⟩) (by simp <;> omega) (.bool f)).far (p:=⟨w.heap.size+1+1,1,none⟩) (by simp <;> omega) (.slice A5 n5 c5);have b3:Blk w9 (w.heap.size+1+1) 39 #[.bool f,.slice A5 n5 c5]:=by rw[<- hw9];exact(b1.far (by simp <;> omega) _).far (by simp <;> omega) _
 have b4:Blk w9 (w.heap.size+1+1+1) 39 #[.bool o,.slice A7 n7 c7]:=by rw[<- hw9];exact(b2.set_ 0 _).set_ 1 _
 have f4:Below w.heap.size w w9:=by rw[<- hw9];exact Zf ((((g5.setCell (p:=⟨w.heap.size+1+1,0,none⟩) (by simp <;> omega) _).setCell (p:=⟨w.heap.size+1+1,1,none⟩) (by simp <;> omega) _).setCell (p:=⟨w.heap.size+1+1+1,0,none⟩) (by simp <;> omega) _).setCell (p:=⟨w.heap.size+1+1+1,1,none⟩) (by simp <;> omega) _) 1
 have a9:∀ (A:Option Addr) (n c:Nat) (l:List Nat),Lim w8 A n c l->Lim w9 A n c l:=λA n c l h=>by
  rw[<- hw9];exact Lim.set_box (Lim.set_box (Lim.set_box (Lim.set_box h y.out (NoLimb.box _ _ _ _) 0 _) (y.out.set_ 0 _) (NoLimb.box _ _ _ _) 1 _) b2 (NoLimb.box _ _ _ _) 0 _) (b2.set_ 0 _) (NoLimb.box _ _ _ _) 1 _
 have t1:=b3.cell 0;have t2:=b3.cell 1;have t3:=b4.cell 0;have t4:=b4.cell 1;simp at t1 t2 t3 t4;refine bodyPost_ret (v:=.tuple #[.agg #[.bool f,.slice A5 n5 c5],.agg #[.bool o,.slice A7 n7 c7],.int .i64 0]) (by simp[results,Tryz.results184,go_sem,t1,t2,t3,t4]) rfl ?_;exact hfin.out _ _ ⟨f4,_,_,_,_,_,_,_,_,rfl,⟨b5.1,b5.2.1,a9 _ _ _ _ b5.2.2⟩,⟨b9.1,b9.2.1,a9 _ _ _ _ b9.2.2⟩⟩
theorem Zp2(na nb:Bool)(A B:Option Addr)(n c m d:Nat)(za zb:Int)(w:World)(ha:Wd w na A n c za)(hb:Wd w nb B m d zb)(h0:zb≠0)(hy:0<za.natAbs%zb.natAbs)(hs:na≠nb) :
    Calls Tryz.prog 184 #[.agg #[.bool na,.slice A n c],.agg #[.bool nb,.slice B m d]] w (Zj0 w za zb):=by
 have c9:=ha.lim;have T:=hb.lim;have hn:=ha.2.1;have hm:=hb.2.1;have i7:=T.2.2.1;have l2:=T.2.1;unfold maxLen at i7;have c1:∀ X Y Z V U:Obj,Below w.heap.size w (((((w.alloc X).alloc Y).alloc Z).alloc V).alloc U):=λX Y Z V U=>(((((Qb w.heap.size w).alloc (Qa _) _).alloc (by simp) _).alloc (by simp;omega) _).alloc (by simp;omega) _).alloc (by simp;omega) _
 have hW:∀ X Y Z V t,WL (((((w.alloc X).alloc Y).alloc Z).alloc V).alloc (.cells #[.bool na,.slice A n c,.bool nb,.slice B m d] t)) (some ⟨w.heap.size+1+1+1+1,0,none⟩) 2 2 [⟨na,A,n,c,digits za.natAbs⟩,⟨nb,B,m,d,digits zb.natAbs⟩]:=λX Y Z V t=>by
  have:=WL.two (neg:=na) (neg':=nb) ((((c9.alloc X).alloc Y).alloc Z).alloc V) ((((T.alloc X).alloc Y).alloc Z).alloc V) t;simp only[Qc]at this;exact this
 have hW:=Za hW;have c1:=Za c1;have c8:Hid (okW na (digits za.natAbs)=true/\okW nb (digits zb.natAbs)=true):=⟨ha.ok,hb.ok⟩;have d7:=ha.sgEq;have d6:=hb.sgEq;rw[Zj]at d7 d6;have hU:=ha.small;have hV:=hb.small;clear ha hb;have a2:0<zb.natAbs:=by omega
 have l0:0<m:=by rw[<- T.len];exact length_digits_pos.2 a2
 have k4:((m:Int) == 0)=false:=by simp;omega
 obtain⟨a3,a8⟩:=Zob na nb za.natAbs zb.natAbs a2 hy hs;rw[d7,d6]at a3 a8;clear d7 d6 h0;generalize za.natAbs=U at *;generalize zb.natAbs=V at *
 have f4:(sg (na != nb) (U/V+1)).natAbs<pw 4096:=by
  rw[Zab];have h1:=Qr U V;have h2:=Qd U a2;rcases Qg 1 V with h|h
  ·have:U/V+U/V<=V*(U/V):=by rw[<- Nat.two_mul];exact Qf _ h
   omega
  omega
 have f8:(sg nb (V-U%V)).natAbs<pw 4096:=by rw[Zab];omega
 rw[<- a3]at f4;rw[<- a8]at f8;have hfin:Hid (∀ (e:Ending) (w':World),(Below w.heap.size w w'/\∃ nq Aq kq cq nr Ar kr cr,e=.returned (.tuple #[.agg #[.bool nq,.slice Aq kq cq],.agg #[.bool nr,.slice Ar kr cr],.int .i64 0])/\Wd w' nq Aq kq cq (Qk za zb)/\Wd w' nr Ar kr cr (Ql za zb))->Zj0 w za zb e w'):=λ_ _ h=>h;generalize Qk za zb=ZQ at *;generalize Ql za zb=ZR at *;replace a3:=Za a3;replace a8:=Za a8;have a6:(na != nb)=true:=by simpa using hs
 have k6:(na == nb)=false:=by simpa using hs
 replace a6:=Za a6;go_enter Tryz.func184,Tryz.ntmps184;go_wp2_with fail;refine(Zdc (hW.out _ _ _ _ _) (by have:=c8.out;simp[WE.ok,this])).mono ?_;rintro e w1 ⟨rfl,a5⟩;obtain⟨a7,j3⟩:=Zdh a5;have l5:w.heap.size+1+1+1+1<w1.heap.size:=by have:=a5.size;simp at this;omega
 have b5:Below w.heap.size w w1:=(c1.out _ _ _ _ _).trans (a5.mono (by simp;omega));have g0:w1.cell? ⟨w.heap.size,0,none⟩=some (.bool na):=by simp[a7,go_sem]
 have g1:w1.cell? ⟨w.heap.size,1,none⟩=some (.slice A n c):=by simp[a7,go_sem]
 have g2:w1.cell? ⟨w.heap.size+1,0,none⟩=some (.bool nb):=by simp[a7,go_sem]
 have g3:w1.cell? ⟨w.heap.size+1,1,none⟩=some (.slice B m d):=by simp[a7,go_sem]
 have bq:Hid (Blk w1 (w.heap.size+1+1) 39 #[.bool false,.slice none 0 0]):=by
  refine Zc a5 (Blk.alloc (Blk.alloc ?_ _) _);have:=Qe ((w.alloc (.cells #[.bool na,.slice A n c] 39)).alloc (.cells #[.bool nb,.slice B m d] 39)) 39 #[.bool false,.slice none 0 0];simp only[Qc]at this;exact this
 have br:Hid (Blk w1 (w.heap.size+1+1+1) 39 #[.bool false,.slice none 0 0]):=by
  refine Zc a5 (Blk.alloc ?_ _);have:=Qe (((w.alloc (.cells #[.bool na,.slice A n c] 39)).alloc (.cells #[.bool nb,.slice B m d] 39)).alloc (.cells #[.bool false,.slice none 0 0] 39)) 39 #[.bool false,.slice none 0 0];simp only[Qc]at this;exact this
 have e4:=c9.below b5;have e9:=T.below b5;clear a7 j3;go_wp2_with fail;refine(Zg0 _ _ _ _ _ _ U V _ e4 e9 (by omega) a2).mono ?_;rintro e w2 ⟨A2,n2,c2,B2,m2,d2,rfl,e6,a4,a1⟩;have d0:Below w.heap.size w w2:=b5.trans (a1.mono b5.size);have e1:=a4.2.2.1;have k5:=a4.2.1;unfold maxLen at e1;have k2:=Zb a1 g0;have h3:=Zb a1 g1;have j4:=Zb a1 g2;have g9:=Zb a1 g3;have h6:Hid (Blk _ _ _ _):=Zc a1 bq.out;have h4:Hid (Blk _ _ _ _):=Zc a1 br.out;have k8:0<m2:=by rw[<- a4.len];exact length_digits_pos.2 hy
 have g4:m2<=m:=by have:=Z4 (Qm (Qd U a2));rw[a4.len,T.len]at this;exact this
 have k3:n2<=n:=by have:=Z4 (Qs U V);rw[e6.len,c9.len]at this;exact this
 have e2:∀ t,Lim (w2.alloc (.cells #[limb 1] t)) (some ⟨w2.heap.size,0,none⟩) 1 1 [1]:=λt=>by
  have:=Lim.of_blk (l:=[1]) (Qe w2 t (Zw [1])) (Lt32.cons (by decide) Lt32.nil) (by simp[maxLen]);exact this
 have h5:=Za e2;clear e2;go_wp2_with fail;refine(Zr4 _ _ _ _ _ _ _ _ _ (e6.alloc _) (h5.out _) (by omega) (by omega)).mono ?_;rintro e w3 ⟨A3,n3,c3,l3,rfl,i2,f3,e0⟩;have y:Below w2.heap.size w2 w3:=((Qb w2.heap.size w2).alloc (Qa _) _).trans (e0.mono (by simp));have f5:Below w.heap.size w w3:=d0.trans (y.mono d0.size);have d4:=f3.2;replace d4:=Za d4;clear f3;have j1:=Zb y k2;have j5:=Zb y h3;have g5:=Zb y j4;have i5:=Zb y g9;have h8:Hid (Blk _ _ _ _):=Zc y h6.out;have j2:Hid (Blk _ _ _ _):=Zc y h4.out;have e7:=(T.below d0).below y;have e8:=a4.below y;have b8:val (digits (U%V))<=val (digits V):=by rw[Zj,Zj];exact Qm (Qd U a2)
 go_wp2_with fail;refine(Zke _ _ _ _ _ _ _ _ _ e7 e8 g4 b8 (by omega)).mono ?_;rintro e w4 ⟨A4,n4,c4,l4,rfl,h9,f9,J⟩;have e3:Below w.heap.size w w4:=f5.trans (J.mono f5.size);have c0:=f9.2;replace c0:=Za c0;clear f9 b8;have f0:=i2.below J;have g8:=Zb J j1;have i4:=Zb J j5;have i6:=Zb J g5;have g7:=Zb J i5;have i9:Hid (Blk _ _ _ _):=Zc J h8.out;have i1:Hid (Blk _ _ _ _):=Zc J j2.out;go_wp2_with fail;refine(Zb7 _ _ _ _ _ _ f0).mono ?_;rintro e w5 ⟨O,f,A5,n5,c5,j6,rfl,d8⟩;have i0:Below w.heap.size w w5:=e3.trans (O.mono e3.size);have l6:=Zb O g8;have l1:=Zb O i4;have k7:=Zb O i6;have k9:=Zb O g7;have u:Hid (Blk _ _ _ _):=Zc O i9.out;have g6:Hid (Blk _ _ _ _):=Zc O i1.out;have j9:val l4=V-U%V:=by have:=c0.out;rw[Zj,Zj]at this;omega
 have b7:=a3.out;rw[a6.out]at b7;rw[d4.out,Zj,show val [1]=1 from rfl,<- b7]at d8;rcases d8 with ⟨-,rfl,b0⟩|⟨e5,-⟩
 case inr=>exact absurd f4 (by omega)
 have q1:=u.out.cell 0;have q2:=u.out.cell 1;have q3:=u.out.frozen 0;have q4:=u.out.frozen 1;simp at q1 q2;go_wp2_with fail;generalize hw6:(w5.setCell ⟨w.heap.size+1+1,0,none⟩ (.bool f)).setCell ⟨w.heap.size+1+1,1,none⟩ (.slice A5 n5 c5)=w6;have i8:Hid (Blk w6 (w.heap.size+1+1) 39 #[.bool f,.slice A5 n5 c5]):=by rw[<- hw6];exact(u.out.set_ 0 _).set_ 1 _
 have k0:Hid (Blk w6 (w.heap.size+1+1+1) 39 #[.bool false,.slice none 0 0]):=by rw[<- hw6];exact(g6.out.far (by simp <;> omega) _).far (by simp <;> omega) _
 have f7:Below w.heap.size w w6:=by rw[<- hw6];exact(i0.setCell (p:=⟨w.heap.size+1+1,0,none⟩) (by simp <;> omega) _).setCell (p:=⟨w.heap.size+1+1,1,none⟩) (by simp <;> omega) _
 have j8:Wd w6 f A5 n5 c5 ZQ:=by
  rw[<- hw6];exact⟨b0.1,b0.2.1,Lim.set_box (Lim.set_box b0.2.2 u.out (NoLimb.box _ _ _ _) 0 _) (u.out.set_ 0 _) (NoLimb.box _ _ _ _) 1 _⟩
 have f6:Lim w6 A4 n4 c4 l4:=by
  rw[<- hw6];exact Lim.set_box (Lim.set_box (h9.below O) u.out (NoLimb.box _ _ _ _) 0 _) (u.out.set_ 0 _) (NoLimb.box _ _ _ _) 1 _
 clear hw6 q1 q2 q3 q4 b0;refine(Zb7 _ _ _ _ _ _ f6).mono ?_;rintro e w7 ⟨a9,o,A7,n7,c7,j7,rfl,d9⟩;have h7:Below w.heap.size w w7:=f7.trans (a9.mono f7.size);have i3:Hid (Blk w7 (w.heap.size+1+1) 39 #[.bool f,.slice A5 n5 c5]):=Zc a9 i8.out;have I:Hid (Blk w7 (w.heap.size+1+1+1) 39 #[.bool false,.slice none 0 0]):=Zc a9 k0.out;rw[j9,<- a8.out]at d9;rcases d9 with ⟨-,rfl,c6⟩|⟨e5,-⟩
 case inr=>exact absurd f8 (by omega)
 have r1:=I.out.cell 0;have r2:=I.out.cell 1;have r3:=I.out.frozen 0;have r4:=I.out.frozen 1;simp at r1 r2;go_wp2_with fail;generalize hw8:(w7.setCell ⟨w.heap.size+1+1+1,0,none⟩ (.bool o)).setCell ⟨w.heap.size+1+1+1,1,none⟩ (.slice A7 n7 c7)=w8;have C:Blk w8 (w.heap.size+1+1) 39 #[.bool f,.slice A5 n5 c5]:=by rw[<- hw8];exact(i3.out.far (by simp <;> omega) _).far (by simp <;> omega) _
 have a0:Blk w8 (w.heap.size+1+1+1) 39 #[.bool o,.slice A7 n7 c7]:=by rw[<- hw8];exact(I.out.set_ 0 _).set_ 1 _
 have k1:Below w.heap.size w w8:=by rw[<- hw8];exact(h7.setCell (p:=⟨w.heap.size+1+1+1,0,none⟩) (by simp <;> omega) _).setCell (p:=⟨w.heap.size+1+1+1,1,none⟩) (by simp <;> omega) _
 have b9:Wd w8 f A5 n5 c5 ZQ:=by
  rw[<- hw8];have d5:=j8.below a9;exact⟨d5.1,d5.2.1,Lim.set_box (Lim.set_box d5.2.2 I.out (NoLimb.box _ _ _ _) 0 _) (I.out.set_ 0 _) (NoLimb.box _ _ _ _) 1 _⟩
 have d3:Wd w8 o A7 n7 c7 ZR:=by
  rw[<- hw8];exact⟨c6.1,c6.2.1,Lim.set_box (Lim.set_box c6.2.2 I.out (NoLimb.box _ _ _ _) 0 _) (I.out.set_ 0 _) (NoLimb.box _ _ _ _) 1 _⟩
 have s1:=C.cell 0;have s2:=C.cell 1;have s3:=C.frozen 0;have s4:=C.frozen 1;have s5:=a0.cell 0;have s6:=a0.cell 1;have s7:=a0.frozen 0;have s8:=a0.frozen 1;simp at s1 s2 s5 s6;replace C:=Za C;replace a0:=Za a0;clear hw8 r1 r2 r3 r4
 go_region
 go_wp2
 generalize hw9:((((w8.setCell ⟨w.heap.size+1+1,0,none⟩ (.bool f)).setCell ⟨w.heap.size+1+1,1,none⟩ (.slice A5 n5 c5)).setCell ⟨w.heap.size+1+1+1,0,none⟩ (.bool o)).setCell ⟨w.heap.size+1+1+1,1,none⟩ (.slice A7 n7 c7)).drew=w9;have b1:=(C.out.set_ 0 (.bool f)).set_ 1 (.slice A5 n5 c5);have b2:=(a0.out.far (p:=⟨w.heap.size+1+1,0,none⟩) (by simp <;> omega) (.bool f)).far (p:=⟨w.heap.size+1+1,1,none⟩) (by simp <;> omega) (.slice A5 n5 c5);have b3:Blk w9 (w.heap.size+1+1) 39 #[.bool f,.slice A5 n5 c5]:=by rw[<- hw9];exact(b1.far (by simp <;> omega) _).far (by simp <;> omega) _
 have b4:Blk w9 (w.heap.size+1+1+1) 39 #[.bool o,.slice A7 n7 c7]:=by rw[<- hw9];exact(b2.set_ 0 _).set_ 1 _
 have j0:Below w.heap.size w w9:=by rw[<- hw9];exact Zf ((((k1.setCell (p:=⟨w.heap.size+1+1,0,none⟩) (by simp <;> omega) _).setCell (p:=⟨w.heap.size+1+1,1,none⟩) (by simp <;> omega) _).setCell (p:=⟨w.heap.size+1+1+1,0,none⟩) (by simp <;> omega) _).setCell (p:=⟨w.heap.size+1+1+1,1,none⟩) (by simp <;> omega) _) 1
 have b6:∀ (A:Option Addr) (n c:Nat) (l:List Nat),Lim w8 A n c l->Lim w9 A n c l:=λA n c l h=>by
  rw[<- hw9];exact Lim.set_box (Lim.set_box (Lim.set_box (Lim.set_box h C.out (NoLimb.box _ _ _ _) 0 _) (C.out.set_ 0 _) (NoLimb.box _ _ _ _) 1 _) b2 (NoLimb.box _ _ _ _) 0 _) (b2.set_ 0 _) (NoLimb.box _ _ _ _) 1 _
 have t1:=b3.cell 0;have t2:=b3.cell 1;have t3:=b4.cell 0;have t4:=b4.cell 1;simp at t1 t2 t3 t4;refine bodyPost_ret (v:=.tuple #[.agg #[.bool f,.slice A5 n5 c5],.agg #[.bool o,.slice A7 n7 c7],.int .i64 0]) (by simp[results,Tryz.results184,go_sem,t1,t2,t3,t4]) rfl ?_;exact hfin.out _ _ ⟨j0,_,_,_,_,_,_,_,_,rfl,⟨b9.1,b9.2.1,b6 _ _ _ _ b9.2.2⟩,⟨d3.1,d3.2.1,b6 _ _ _ _ d3.2.2⟩⟩
theorem Zf8(na nb:Bool)(A B:Option Addr)(n c m d:Nat)(za zb:Int)(w:World)(ha:Wd w na A n c za)(hb:Wd w nb B m d zb)(h0:zb≠0) :
    Calls Tryz.prog 184 #[.agg #[.bool na,.slice A n c],.agg #[.bool nb,.slice B m d]] w (Zj0 w za zb):=by
 rcases Qh (za.natAbs%zb.natAbs)with hy|hy;exact Zrx na nb A B n c m d za zb w ha hb h0 hy
 ·by_cases hs:na=nb
  exact Zsm na nb A B n c m d za zb w ha hb h0 hy hs;exact Zp2 na nb A B n c m d za zb w ha hb h0 hy hs
theorem Ztl(neg:Bool)(A:Option Addr)(n c:Nat)(l:List Nat)(w:World)(h:Lim w A n c l) :
    Calls Tryz.prog 29 #[.agg #[.bool neg,.slice A n c]] w λe w'=>e=.returned (.int .i64 (Zhy (okW neg l)))/\Below w.heap.size w w':=by
 have C:=h.2.1;have o:=h.2.2.1;unfold maxLen at o;have HLen:=Za h.len;by_cases t1:n<=4096
 ·by_cases t2:0<n
  ·obtain⟨b1,o1,rfl,hx⟩:=h.at_ (k:=n-1) (by omega)
   have u:=Zo hx;have y:((n:Int) == 0)=false:=by simp;omega
   by_cases t3:l[n-1]?.getD 0=0
   ·have f:(((l[n-1]?.getD 0:Nat):Int) == 0)=true:=by simp[t3]
    rw[Zrm (by rw[HLen.out];exact t2) (by rw[HLen.out];exact t3)];clear t3 h;go_enter Tryz.func29,Tryz.ntmps29
    go_wp2
    go_ret;exact⟨rfl,(Qb _ _).alloc (Qa _) _⟩
   ·have f:(((l[n-1]?.getD 0:Nat):Int) == 0)=false:=by simpa using t3
    rw[Zzj (by rw[HLen.out];exact t2) (by rw[HLen.out];exact t1) (by rw[HLen.out];exact t3)];clear t3 h;cases neg
    all_goals
     go_enter Tryz.func29,Tryz.ntmps29
     go_wp2
     go_ret;exact⟨rfl,(Qb _ _).alloc (Qa _) _⟩
  ·obtain rfl:n=0:=by omega
   rw[Zpb HLen.out];clear h;cases neg
   all_goals
    go_enter Tryz.func29,Tryz.ntmps29
    go_wp2
    go_ret;exact⟨rfl,(Qb _ _).alloc (Qa _) _⟩
 ·rw[Zva (by rw[HLen.out];omega)]
  clear h;go_enter Tryz.func29,Tryz.ntmps29
  go_wp2
  go_ret;exact⟨rfl,(Qb _ _).alloc (Qa _) _⟩
theorem Zd8(A:Option Addr)(n c:Nat)(l:List Nat)(w:World)(h:Lim w A n c l)(hn9:n<=1000000000) :
    Calls Tryz.prog 123 #[.slice A n c] w (OutL w λl'=>l'=digits (val l)):=by
 obtain⟨i0,hi,C,I,y⟩:=info_parts Zdo;have hn:=h.2.1;have hm:=h.2.2.1;unfold maxLen at hm;go_enter Tryz.func123,Tryz.ntmps123
 go_wp2
 go_loop [3] (λv=>∃ k:Nat,k<=n/\v=.int .i64 k/\Hid (∀ j,k<=j->l[j]?.getD 0=0)) (λv=>(intOf v).toNat)
 case atStart=>exact⟨n,Qa _,rfl,λj hj=>by rw[List.getElem?_eq_none (by rw[h.len];exact hj)];rfl⟩
 case round =>
  obtain⟨k,hk,rfl,hz⟩:=hrel;by_cases hk0:0<k
  ·obtain⟨b,o,rfl,J⟩:=h.at_ (k:=k-1) (by omega)
   by_cases hx:l[k-1]?.getD 0=0
   ·have hb:(((l[k-1]?.getD 0:Nat):Int) == 0)=true:=by simp[hx]
    clear h;have hx:=Za hx
    go_wp2
    go_round
    case rel=>exact⟨k-1,by omega,by go_num,λj hj=>by
        rcases Qg j k with h'|h'
        ·obtain rfl:j=k-1:=by omega
         exact hx.out
        ·exact hz.out j h'⟩
    case measure=>simp[intOf];omega
   ·have hb:(((l[k-1]?.getD 0:Nat):Int) == 0)=false:=by simpa using hx
    have HD:=Za (Zgr hz.out (Or.inr hx) h.lt);clear hx;go_wp2_with (at_builtin;refine Zu _ rfl (.tmp 18) (.tmp 21) 37 rfl w.heap.size 106 i0 _ 1 4 Tryz.underlying37 hi C I y rfl (by omega) (.slice (some ⟨w.heap.size,0,none⟩) 0 0) 0 [] rfl (Zks _ _ _) _ _ k c ((l.take k).map limb) rfl (by exact((h.take hk).alloc _).reads) (Zek _) (by simp only[maxLen];omega) (by omega) (by simp) ?_;intro v1 w1 e f u);go_ret;exact OutL.of_append e (by rw[Qj,h.len];omega) (h.lt.take _) ((Qb _ _).alloc (Qa _) _) f (λj hj=>by simp[Value.ownBlock]at hj;omega) HD.out.symm
  ·obtain rfl:k=0:=by omega
   have HD:=Za (Zgr hz.out (Or.inl rfl) h.lt);go_wp2_with (at_builtin;refine Zu _ rfl (.tmp 18) (.tmp 21) 37 rfl w.heap.size 106 i0 _ 1 4 Tryz.underlying37 hi C I y rfl (by omega) (.slice (some ⟨w.heap.size,0,none⟩) 0 0) 0 [] rfl (Zks _ _ _) _ _ 0 c ((l.take 0).map limb) rfl (by exact((h.take hk).alloc _).reads) (Zek _) (by simp only[maxLen];omega) (by omega) (by simp) ?_;intro v1 w1 e f u);go_ret;exact OutL.of_append e (by rw[Qj,h.len];omega) (h.lt.take _) ((Qb _ _).alloc (Qa _) _) f (λj hj=>by simp[Value.ownBlock]at hj;omega) HD.out.symm
theorem Zcb(neg:Bool)(A:Option Addr)(n c:Nat)(l:List Nat)(w:World)(h:Lim w A n c l)(hn9:n<=1000000000) :
    Calls Tryz.prog 74 #[.bool neg,.slice A n c] w (ResW w (sg neg (val l))):=by
 have HI:=Za (Zs (val l) 4096);have HP:=Za (@length_digits_pos (val l));go_enter Tryz.func74,Tryz.ntmps74;go_wp2_with fail;refine(Zd8 _ _ _ _ _ (h.alloc _) hn9).mono ?_;rintro e w1 ⟨A1,n1,c1,l1,rfl,hL,C,u⟩;subst C;have f:=Za hL.len;have J:=hL.2.1;have I:=hL.2.2.1;unfold maxLen at I;have y:=Qe w 39 #[.bool false,.slice none 0 0];have m7:=Zc u y;have o:Below w.heap.size w w1:=((Qb w.heap.size w).alloc (Qa _) _).trans (u.mono (by simp));have m3:=m7.cell 0;have m4:=m7.cell 1;have m5:=m7.frozen 0;have m6:=m7.frozen 1;simp at m3 m4;have HM:=Za m7;clear m7 y;by_cases h1:n1<=4096
 ·by_cases h2:0<n1
  ·have hd:decide (0<n1)=true:=by simpa using h2
   cases neg
   ·go_wp2_with fail
    refine bodyPost_ret (v:=.tuple #[.agg #[.bool false,.slice A1 n1 c1],.int .i64 0]) (by simp[results,Tryz.results74,go_sem,m3,m4]) rfl ?_;refine ResW.box (.inl ⟨?_,rfl,?_,h1,?_⟩) o (Qa _) HM.out;rw[Zab];exact HI.out.1 (by rw[f.out];exact h1);rw[Zmn];rfl;rw[Zab];exact hL
   ·go_wp2_with fail
    refine bodyPost_ret (v:=.tuple #[.agg #[.bool true,.slice A1 n1 c1],.int .i64 0]) (by simp[results,Tryz.results74,go_sem,m3,m4]) rfl ?_;refine ResW.box (.inl ⟨?_,rfl,?_,h1,?_⟩) o (Qa _) HM.out;rw[Zab];exact HI.out.1 (by rw[f.out];exact h1);rw[Zmn];have:=HP.out.1 (by rw[f.out];exact h2);simp[this];rw[Zab];exact hL
  ·obtain rfl:n1=0:=by omega
   cases neg
   all_goals
    go_wp2_with fail;refine bodyPost_ret (v:=.tuple #[.agg #[.bool false,.slice A1 0 c1],.int .i64 0]) (by simp[results,Tryz.results74,go_sem,m3,m4]) rfl ?_;refine ResW.box (.inl ⟨?_,rfl,?_,h1,?_⟩) o (Qa _) HM.out;rw[Zab];exact HI.out.1 (by rw[f.out];exact h1)
    ·rw[Zmn]
     have:¬ 0<val l:=λhh=>by have:=HP.out.2 hh;rw[f.out]at this;omega
     simp[this]
    rw[Zab];exact hL
 ·have hp:pw 4096<=val l:=by
    rcases Qg (val l) (pw 4096)with h'|h';have:=HI.out.2 h';rw[f.out]at this;exact absurd this h1;exact h'
  have HPW:=Za hp;clear hp;go_wp2_with fail;refine bodyPost_ret (v:=.tuple #[.agg #[.bool false,.slice none 0 0],.int .i64 16]) (by simp[results,Tryz.results74,go_sem,m3,m4]) rfl ?_;exact ResW.box (.inr ⟨by rw[Zab];exact HPW.out,rfl,rfl,rfl,rfl,rfl⟩) o (Qa _) HM.out
theorem Zc9(A B:Option Addr)(n c m d:Nat)(a b:List Nat)(w:World)(ha:Lim w A n c a)(hb:Lim w B m d b) :
    Calls Tryz.prog 73 #[.slice A n c,.slice B m d] w λe w'=>e=.returned (.int .i64 (Zck a b))/\Below w.heap.size w w':=by
 have T:=ha.2.1;have V:=hb.2.1;have y:=ha.2.2.1;have C:=hb.2.2.1;unfold maxLen at y C;by_cases h1:n<m
 ·have f:(((n:Nat):Int) != m)=true:=by simp;omega
  have hd:decide (n<m)=true:=by simpa using h1
  have hr:Zck a b=-1:=by unfold Zck;rw[ha.len,hb.len,Gx h1]
  rw[hr];go_enter Tryz.func73,Tryz.ntmps73
  go_wp2
  go_ret;exact⟨rfl,Qb _ _⟩
 by_cases h2:m<n
 ·have f:(((n:Nat):Int) != m)=true:=by simp;omega
  have hd:decide (n<m)=false:=by simpa using h1
  have hr:Zck a b=1:=by unfold Zck;rw[ha.len,hb.len,Gw h1,Gx h2]
  rw[hr];go_enter Tryz.func73,Tryz.ntmps73
  go_wp2
  go_ret;exact⟨rfl,Qb _ _⟩
 obtain rfl:n=m:=by omega
 have f:(((n:Nat):Int) != n)=false:=by simp
 go_enter Tryz.func73,Tryz.ntmps73
 go_wp2
 go_loopw [5] (λiv wr=>∃ k:Nat,k<=n/\iv=.int .i64 ((n:Int)-1-k)/\Hid (∀ j,n-k<=j->j<n->a[j]?.getD 0=b[j]?.getD 0)/\Below w.heap.size w wr) (λiv _=>(intOf iv+1).toNat)
 case atStart=>exact⟨0,Qn _,by go_num,λj h h'=>by omega,Qb _ _⟩
 case round =>
  obtain⟨k,hk,rfl,he,hB⟩:=hrel;by_cases hlt:k<n
  ·obtain⟨ba,oa,rfl,I⟩:=(ha.below hB).at_ (k:=n-1-k) (by omega)
   obtain⟨bb,ob,rfl,J⟩:=(hb.below hB).at_ (k:=n-1-k) (by omega);have O:=Za ha.len;have U:=Za hb.len;by_cases t1:a[n-1-k]?.getD 0<b[n-1-k]?.getD 0
   ·have o:decide (a[n-1-k]?.getD 0<b[n-1-k]?.getD 0)=true:=by simpa using t1
    have HR:Hid (Zck a b=-1):=by
     have:=Zlp ha.len hb.len ha.lt (by omega) (λj h h'=>he.out j (by omega) h') t1;unfold Hid Zck;rw[ha.len,hb.len];simp[this]
    go_wp2
    go_quiet (fail)
    go_wp2
    go_ret;exact⟨Zjp HR.out.symm,(by first|exact Zf hB _|exact Zf (Zf hB _) _)⟩
   ·have o:decide (a[n-1-k]?.getD 0<b[n-1-k]?.getD 0)=false:=by simpa using t1
    by_cases t2:b[n-1-k]?.getD 0<a[n-1-k]?.getD 0
    ·have u:decide (b[n-1-k]?.getD 0<a[n-1-k]?.getD 0)=true:=by simpa using t2
     have HR:Hid (Zck a b=1):=by
      have:=Zlp hb.len ha.len hb.lt (by omega) (λj h h'=>(he.out j (by omega) h').symm) t2;unfold Hid Zck;rw[ha.len,hb.len];simp[this];omega
     go_wp2
     go_quiet (fail)
     go_wp2
     go_quiet (fail)
     go_wp2
     go_ret;exact⟨Zjp HR.out.symm,(by first|exact Zf hB _|exact Zf (Zf hB _) _)⟩
    ·have u:decide (b[n-1-k]?.getD 0<a[n-1-k]?.getD 0)=false:=by simpa using t2
     have HE:Hid (∀ j,n-(k+1)<=j->j<n->a[j]?.getD 0=b[j]?.getD 0):=λj h h'=>by
      rcases Qg j (n-k)with h3|h3
      ·obtain rfl:j=n-1-k:=by omega
       omega
      exact he.out j h3 h'
     go_wp2
     go_quiet (fail)
     go_wp2
     go_quiet (fail)
     go_wp2
     go_roundw
     case rel=>exact⟨k+1,by omega,by go_num,HE,(by first|exact Zf hB _|exact Zf (Zf hB _) _)⟩
     case measure=>simp[intOf];omega
  ·obtain rfl:k=n:=by omega
   have HR:Hid (Zck a b=0):=by
    have:=Zz1 ha.len hb.len (λj hj=>he.out j (by omega) hj);unfold Hid;rw[this,Zod]
   go_wp2
   go_ret;exact⟨Zjp HR.out.symm,hB⟩
def Zj2(na nb:Bool)(a b:List Nat):Bool:=(na == nb) && (Zck a b == 0)
theorem Ze4(na nb:Bool)(A B:Option Addr)(n c m d:Nat)(a b:List Nat)(w:World)(ha:Lim w A n c a)(hb:Lim w B m d b) :
    Calls Tryz.prog 30 #[.agg #[.bool na,.slice A n c],.agg #[.bool nb,.slice B m d]] w λe w'=>e=.returned (.bool (Zj2 na nb a b))/\Below w.heap.size w w':=by
 by_cases h:na=nb
 ·subst h
  have hs:Zj2 na na a b=(Zck a b == 0):=by simp[Zj2]
  rw[hs];generalize hx:Zck a b=x at *;have HX:=Za hx;clear hx hs;go_enter Tryz.func30,Tryz.ntmps30;go_wp2_with (go_at_call 73;refine(Zc9 _ _ _ _ _ _ _ _ _ ((ha.alloc _).alloc _) ((hb.alloc _).alloc _)).mono ?_;rintro e w1 ⟨he,f⟩;rw[HX.out]at he;subst he);go_ret;exact⟨rfl,(((Qb w.heap.size w).alloc (Qa _) _).alloc (by simp) _).trans (f.mono (by simp;omega))⟩
 ·have o:(na == nb)=false:=by simpa using h
  have hs:Zj2 na nb a b=false:=by simp[Zj2,o]
  rw[hs];clear hs;go_enter Tryz.func30,Tryz.ntmps30
  go_wp2
  go_ret;exact⟨rfl,((Qb w.heap.size w).alloc (Qa _) _).alloc (by simp) _⟩
def RPlus(w:World)(a b:List Nat)(k carry:Nat)(v:Value)(wr:World):Prop:=
 ∃ l,OwnL 106 wr w.heap.size v l/\l.length=k/\carry<=1/\val l+pw k*carry=val (a.take k)+val (b.take k)/\Below w.heap.size w wr
theorem RPlus.step{w w1 wb:World}{a b l:List Nat}{k carry:Nat}{v':Value}{X:Int}{row:Option Nat}(hlen:l.length=k)(hlt:Lt32 l)(hc:carry<=1)
    (hI:val l+pw k*carry=val (a.take k)+val (b.take k)) (hB:Below w.heap.size w wb) (hown:w1.ownsRow w.heap.size 106 1 v' (k+1) (l.map limb ++ [.int .u32 X]))
    (hg:wb.grownBy w1 row) (hr:∀ j,row=some j->w.heap.size<=j) (ha:a[k]?.getD 0<4294967296) (hb:b[k]?.getD 0<4294967296)
    (hX:X=((carry+a[k]?.getD 0+b[k]?.getD 0)%4294967296:Nat)):RPlus w a b (k+1) ((carry+a[k]?.getD 0+b[k]?.getD 0)/4294967296) v' w1:=by
 refine⟨l ++ [(carry+a[k]?.getD 0+b[k]?.getD 0)%4294967296],OwnL.snoc hlen.symm hown hlt hX (Qd _ (by decide)),by simp[hlen],by omega,?_,hB.grown hg hB.size hr⟩;rw[Zes,hlen,Zac,Zac,Za3];have e:(carry+a[k]?.getD 0+b[k]?.getD 0)%4294967296+4294967296*((carry+a[k]?.getD 0+b[k]?.getD 0)/4294967296)=carry+a[k]?.getD 0+b[k]?.getD 0:=Nat.mod_add_div _ _;generalize (carry+a[k]?.getD 0+b[k]?.getD 0)%4294967296=s at *;generalize (carry+a[k]?.getD 0+b[k]?.getD 0)/4294967296=q at *;have:pw k*(s+4294967296*q)=pw k*(carry+a[k]?.getD 0+b[k]?.getD 0):=by rw[e]
 grind
theorem RPlus.stop{w w1 wb:World}{a b l:List Nat}{k carry:Nat}{v':Value}{row:Option Nat}(hlen:l.length=k)(hlt:Lt32 l)(hc:carry<=1)
    (hI:val l+pw k*carry=val (a.take k)+val (b.take k)) (hB:Below w.heap.size w wb) (hown:w1.ownsRow w.heap.size 106 1 v' (k+1) (l.map limb ++ [.int .u32 carry]))
    (hg:wb.grownBy w1 row) (hr:∀ j,row=some j->w.heap.size<=j) (ha:a.length<=k) (hb:b.length<=k):OutL w (λl=>l.length=k+1/\val l=val a+val b) (.returned v') w1:=by
 refine OutL.of_own (OwnL.snoc hlen.symm hown hlt rfl (by omega)) (hB.grown hg hB.size hr) ⟨by simp[hlen],?_⟩;rw[Zes,hlen,hI,Zae ha,Zae hb]
theorem Zyd(A B:Option Addr)(n c m d:Nat)(a b:List Nat)(w:World)(ha:Lim w A n c a)(hb:Lim w B m d b)(hn9:n<=1000000000)(hm9:m<=1000000000) :
    Calls Tryz.prog 169 #[.slice A n c,.slice B m d] w (OutL w λl=>l.length=max n m+1/\val l=val a+val b):=by
 obtain⟨i0,hi,y,C,u⟩:=info_parts Zdo;have a8:=ha.2.1;have b0:=hb.2.1;have Y:=ha.2.2.1;have a0:=hb.2.2.1;unfold maxLen at Y a0;have O:=Za ha.len;have V:=Za hb.len;obtain⟨N,hN,a9,a6,a5⟩:∃ N,N=max n m/\n<=N/\m<=N/\N<=1000000000:=⟨_,rfl,by omega,by omega,by omega⟩;rw[<- hN];have HN:=Za hN;clear hN;go_enter Tryz.func169,Tryz.ntmps169
 go_wp2
 go_loopw [5,6,7] (λov cv iv wr=>∃ k carry:Nat,k<=N/\cv=.int .u64 carry/\iv=.int .i64 k/\RPlus w a b k carry ov wr) (λ_ _ iv _=>N-(intOf iv).toNat)
 case atStart=>exact⟨0,0,Qn _,rfl,rfl,[],OwnL.nil _ _ _,rfl,by omega,by simp[val],Qb _ _⟩
 case round =>
  obtain⟨k,carry,hk,rfl,rfl,l,e,J,I,hI,hB⟩:=hrel;have HLen:=Za J;have HI:=Za hI;clear J hI;have a7:=ha.lt.get k;have a4:=hb.lt.get k;by_cases h1:k<n
  ·obtain⟨ba,oa,rfl,a3⟩:=(ha.below hB).at_ h1
   by_cases h2:k<m
   ·obtain⟨bb,ob,rfl,a1⟩:=(hb.below hB).at_ h2
    go_wp2_with (at_builtin;refine Zu _ rfl (.tmp 42) (.tmp 45) 37 rfl w.heap.size 106 i0 _ 1 4 Tryz.underlying37 hi y C u rfl (by omega) _ k (l.map limb) rfl (by have:=HLen.out;subst this;exact e.1.alloc _) _ _ 1 1 _ rfl (Zbx _ _ _) (by simp[Value.oneCell']) (by simp only[maxLen];omega) (by omega) (by have:=hB.size;simp;omega) ?_;intro v1 w1 f h o)
    go_roundw
    case rel=>exact⟨k+1,_,by omega,by rw[show ((carry:Int)+((a[k]?.getD 0:Nat):Int)+((b[k]?.getD 0:Nat):Int))/4294967296=(((carry+a[k]?.getD 0+b[k]?.getD 0)/4294967296:Nat):Int) by omega],by go_num,RPlus.step HLen.out e.2 I HI.out (hB.alloc hB.size _) f h e.row_ge (ha.lt.get k) (hb.lt.get k) (by omega)⟩
    case measure=>simp[intOf];omega
   ·have T:=Za (getD_none (l:=b) (i:=k) (by rw[V.out];omega))
    go_wp2_with (at_builtin;refine Zu _ rfl (.tmp 42) (.tmp 45) 37 rfl w.heap.size 106 i0 _ 1 4 Tryz.underlying37 hi y C u rfl (by omega) _ k (l.map limb) rfl (by have:=HLen.out;subst this;exact e.1.alloc _) _ _ 1 1 _ rfl (Zbx _ _ _) (by simp[Value.oneCell']) (by simp only[maxLen];omega) (by omega) (by have:=hB.size;simp;omega) ?_;intro v1 w1 f h o)
    go_roundw
    case rel=>exact⟨k+1,_,by omega,by rw[T.out];rw[show ((carry:Int)+((a[k]?.getD 0:Nat):Int))/4294967296=(((carry+a[k]?.getD 0+0)/4294967296:Nat):Int) by omega],by go_num,RPlus.step HLen.out e.2 I HI.out (hB.alloc hB.size _) f h e.row_ge (ha.lt.get k) (hb.lt.get k) (by rw[T.out];omega)⟩
    case measure=>simp[intOf];omega
  ·have U:=Za (getD_none (l:=a) (i:=k) (by rw[O.out];omega))
   by_cases h2:k<m
   ·obtain⟨bb,ob,rfl,a1⟩:=(hb.below hB).at_ h2
    go_wp2_with (at_builtin;refine Zu _ rfl (.tmp 42) (.tmp 45) 37 rfl w.heap.size 106 i0 _ 1 4 Tryz.underlying37 hi y C u rfl (by omega) _ k (l.map limb) rfl (by have:=HLen.out;subst this;exact e.1.alloc _) _ _ 1 1 _ rfl (Zbx _ _ _) (by simp[Value.oneCell']) (by simp only[maxLen];omega) (by omega) (by have:=hB.size;simp;omega) ?_;intro v1 w1 f h o)
    go_roundw
    case rel=>exact⟨k+1,_,by omega,by rw[U.out];rw[show ((carry:Int)+((b[k]?.getD 0:Nat):Int))/4294967296=(((carry+0+b[k]?.getD 0)/4294967296:Nat):Int) by omega],by go_num,RPlus.step HLen.out e.2 I HI.out (hB.alloc hB.size _) f h e.row_ge (ha.lt.get k) (hb.lt.get k) (by rw[U.out];omega)⟩
    case measure=>simp[intOf];omega
   ·have a2:=Za (show k=N by have:=HN.out;omega)
    go_wp2_with (at_builtin;refine Zu _ rfl (.tmp 49) (.tmp 52) 37 rfl w.heap.size 106 i0 _ 1 4 Tryz.underlying37 hi y C u rfl (by omega) _ k (l.map limb) rfl (by have:=HLen.out;subst this;exact e.1.alloc _) _ _ 1 1 _ rfl (Zbx _ _ _) (by simp[Value.oneCell']) (by simp only[maxLen];omega) (by omega) (by have:=hB.size;simp;omega) ?_;intro v1 w1 f h o);go_ret;rw[<- a2.out];exact RPlus.stop HLen.out e.2 I HI.out (hB.alloc hB.size _) f h e.row_ge (by rw[O.out];omega) (by rw[V.out];omega)
