/- Package wide: made, times, and what is built on them. -/
import Derived.Deep.RegionHeld3
import Derived.Deep.DeepFit
import Derived.BigQuiet
import Derived.Deep.QuietTactic
import Derived.Test.YtdkhcplnoomcbaaGreatDoorZb03
set_option maxRecDepth 100000
set_option maxHeartbeats 2000000
set_option linter.unusedSimpArgs false
set_option linter.unusedVariables false
namespace Go.Proofs.YtdkhcplnoomcbaaGreatDoor
open Go.RowKit
open Nat renaming le_refl→Qa,mod_lt→Qc,zero_le→Qf,lt_or_ge→Qg,mul_le_mul_right→Qh,le_trans→Qk,le_of_lt→Ql,div_le_self→Qo,lt_trans→Qq,lt_of_le_of_lt→Qr,pow_pos→Qs,div_eq_of_lt→Qt,mod_eq_of_lt→Qu,div_add_mod→Qv
open Below renaming refl→Qb
open Int renaming fdiv→Qd,fmod→Qe
open World renaming cell?_setCell_other→Qi
open List renaming length_take→Qj,length_set→Qm,replicate→Qp
open And renaming intro→Qn
open Blk renaming new→Qw
attribute [local go_sem] Zf
theorem Zvw{w w':World}{A:Option Addr}{n c:Nat}{l:List Nat}{neg:Bool}(h:Lim w A n c l)(hb:Below w.heap.size w w')(hs:val l<pw 4096) :
    ResW w (sg neg (val l)) (.returned (.tuple #[.agg #[.bool (neg && decide (0<(digits (val l)).length)),.slice A (digits (val l)).length c],.int .i64 0])) w':=
 ⟨hb,_,_,_,_,_,rfl,.inl ⟨by rw[Z0];exact hs,rfl,(Wd.made h neg hs).below hb⟩⟩
theorem Fv{G:Prop}(h:G:=by
 cases neg
 all_goals
  go_in;go_wp2_with (go_at_call 134;refine(HT.out _ (h.alloc _)).mono ?_;rintro e w' ⟨rfl,rfl⟩);go_returns;exact HO.out _ ((Below.refl _ _).alloc (Nat.le_refl _) _) (HI.out.1 h1)):G:=h
theorem Zcd(neg:Bool)(A:Option Addr)(n c:Nat)(l:List Nat)(w:World)(h:Lim w A n c l) :
    Calls Tryz.prog 102 #[.bool neg,.slice A n c] w (ResW w (sg neg (val l))):=by
 have hk:=h.canon.2;have o:=h.2.1;have f:=h.2.2.1;unfold maxLen at f
 have HO:Hid (∀ w',Below w.heap.size w w'->val l<pw 4096->ResW w (sg neg (val l)) (.returned (.tuple #[.agg #[.bool (neg && decide (0<(digits (val l)).length)),.slice A (digits (val l)).length c],.int .i64 0])) w'):=
  λw' hb hs=>Zvw h hb hs
 have HB:Hid (∀ w',Below w.heap.size w w'->pw 4096<=val l->ResW w (sg neg (val l)) (.returned (.tuple #[.agg #[.bool false,.slice none 0 0],.int .i64 16])) w'):=
  λw' hb hs=>⟨hb,_,_,_,_,_,rfl,.inr ⟨by rw[Z0];exact hs,rfl,rfl,rfl,rfl,rfl⟩⟩
 have HI:=Zb (Zo (val l) 4096);have HT:=Zb (Zff A n c l);generalize hm:(digits (val l)).length=m at *;clear hm;by_cases h1:m<=4096
 ·by_cases h2:0<m
  ·have e:(neg && decide (0<m))=neg:=by simp[h2]
   simp only[e]at HO;clear e;have hd:decide (0<m)=true:=by simpa using h2
   exact Fv
  obtain rfl:m=0:=Gk;have e:(neg && decide (0<0))=false:=Gh;simp only[e]at HO;clear e;exact Fv
 have hp:pw 4096<=val l:=by
   rcases Qg (val l) (pw 4096)with h'|h';exact absurd (HI.out.2 h') h1;exact h'
 have HP:=Zb hp;clear hp;go_in;go_wp2_with (go_at_call 134;refine(HT.out _ (h.alloc _)).mono ?_;rintro e w' ⟨rfl,rfl⟩);go_returns;exact HB.out _ ((Qb _ _).alloc (Qa _) _) HP.out
def Times1(w:World)(a b:List Nat)(g i k carry:Nat)(wr:World):Prop:=
 ∃ out,Blk wr g 143 (Zt out)/\out.length=a.length+b.length/\Lt32 out/\(∀ j,i+b.length<=j->out[j]?.getD 0=0) /\
  val out+pw (i+k)*carry=val (a.take i)*val b+pw i*(a[i]?.getD 0*val (b.take k))/\carry<4294967296/\Below w.heap.size w wr
theorem Times1.start(w:World)(a b:List Nat):Times1 w a b w.heap.size 0 0 0 (w.alloc (.cells (Zt (Qp (a.length+b.length) 0)) 143)):=
 ⟨Qp _ 0,Qw _ _ _,by simp,Lt32.replicate _,λj _=>Zdu _ _,by simp[Zd8,val],by omega,(Qb _ _).alloc (Qa _) _⟩
theorem Times1.step{w wr:World}{a b out:List Nat}{i k carry s q:Nat}(hblk:Blk wr w.heap.size 143 (Zt out))(hlen:out.length=a.length+b.length)(hlt:Lt32 out)(hz:∀ j,i+b.length<=j->out[j]?.getD 0=0)
    (hI:val out+pw (i+k)*carry=val (a.take i)*val b+pw i*(a[i]?.getD 0*val (b.take k))) (hc:carry<4294967296) (hB:Below w.heap.size w wr) (hi:i<a.length) (hk:k<b.length)
    (ha:Lt32 a) (hb:Lt32 b) (hs:s<4294967296) (he:s+4294967296*q=carry+a[i]?.getD 0*b[k]?.getD 0+out[i+k]?.getD 0) :
    Times1 w a b w.heap.size i (k+1) q (wr.setCell ⟨w.heap.size,i+k,none⟩ (limb s)):=
 ⟨out.set (i+k) s,by rw[<- Zbw];exact hblk.set_ _ _,by rw[Qm];exact hlen,hlt.set _ hs,λj hj=>by rw[getD_set_ne _ Gk];exact hz j Gk,
  Zrt Gk hI he,Zwm (ha.get i) (hb.get k) (hlt.get _) hc he,hB.setCell (p:=⟨w.heap.size,i+k,none⟩) (Qa _) _⟩
theorem Times1.row{w wr:World}{a b:List Nat}{i carry:Nat}(h:Times1 w a b w.heap.size i b.length carry wr)(hi:i<a.length) :
    Times1 w a b w.heap.size (i+1) 0 0 (wr.setCell ⟨w.heap.size,i+b.length,none⟩ (limb carry)):=by
 obtain⟨out,e,f,o,hz,hI,hc,hB⟩:=h;rw[List.take_length]at hI;refine⟨out.set (i+b.length) carry,by rw[<- Zbw];exact e.set_ _ _,by rw[Qm];exact f,o.set _ hc,λj hj=>by rw[getD_set_ne _ Gk];exact hz j Gk,?_,by omega,hB.setCell (p:=⟨w.heap.size,i+b.length,none⟩) (Qa _) _⟩;have:=Zuc Gk (hz _ (Qa _)) hI;simp[val,this]
theorem Times1.stop{w wr:World}{a b:List Nat}{carry:Nat}(h:Times1 w a b w.heap.size a.length 0 carry wr)(hn:a.length+b.length<=maxLen)(h0:carry=0) :
    OutL w (λl=>l.length=a.length+b.length/\val l=val a*val b) (.returned (.slice (some ⟨w.heap.size,0,none⟩) (a.length+b.length) (a.length+b.length))) wr:=by
 obtain⟨out,f,e,o,-,hI,-,hB⟩:=h;have hL:=Lim.of_blk f o Gk;rw[e]at hL;refine⟨_,_,_,_,rfl,hL,⟨e,?_⟩,hB⟩;subst h0;simpa [val]using hI
theorem Ztw(A B:Option Addr)(n c m d:Nat)(a b:List Nat)(w:World)(ha:Lim w A n c a)(hb:Lim w B m d b)(hn:n<=1000000000)(hm:m<=1000000000) :
    Calls Tryz.prog 103 #[.slice A n c,.slice B m d] w (OutL w λl=>l.length=n+m/\val l=val a*val b):=by
 obtain⟨i0,hi,J,U,a1⟩:=info_parts Zdc;have b0:=Zgm (P:=Tryz.prog) 28 143 Tryz.underlying28 hi J U a1 ((n:Int)+m) (n+m) Gk Gk;have a9:=ha.2.1;have b1:=hb.2.1;have I:=ha.2.2.1;have O:=hb.2.2.1;unfold maxLen at I O;have o:=Zb ha.len;have h:=Zb hb.len;go_in
 go_wp2
 go_loopw [19] (λiv wr=>∃ i:Nat,i<=n/\iv=.int .i64 i/\Times1 w a b w.heap.size i 0 0 wr) (λiv _=>n-(intOf iv).toNat)
 case atStart=>exact⟨0,Qf _,rfl,by have:=Times1.start w a b;rw[ha.len,hb.len]at this;exact this⟩
 case round =>
  obtain⟨i,a6,rfl,hP⟩:=hrel;by_cases hlt1:i<n
  ·have a3:Below w.heap.size w wr:=by obtain⟨out,h1,h2,h3,h4,h5,h6,h7⟩:=hP;exact h7
   obtain⟨ba,oa,rfl,a8⟩:=(ha.below a3).at_ hlt1;have a4:=ha.lt.get i;obtain⟨wo,rfl⟩:=Gy wr
   go_wp2
   go_loopw [8,26] (λcv kv wr=>∃ k carry:Nat,k<=m/\cv=.int .u64 carry/\kv=.int .i64 k/\Times1 w a b w.heap.size i k carry wr) (λ_ kv _=>m-(intOf kv).toNat)
   case atStart=>exact⟨0,0,Qf _,rfl,rfl,hP⟩
   case round =>
    obtain⟨k,carry,hk,rfl,rfl,hP⟩:=hrel;by_cases hlt2:k<m
    ·obtain⟨out,e,f,u,hz,hI,C,hB⟩:=hP
     have hz:=Zb hz;have hI:=Zb hI;have f:=Zb f;have Y:=e.lt;obtain⟨bb,ob,rfl,a7⟩:=(hb.below hB).at_ hlt2;have a2:=hb.lt.get k;have E:=e.cell (i+k);rw[Zaz out (i+k) (by rw[f.out,o.out,h.out];omega)]at E;have a5:=u.get (i+k);have a0:=e.frozen (i+k)
     go_wp2
     go_roundw
     case rel =>
      rw[mulstep C a4 a2 a5,Zqd,Zo8];exact⟨k+1,_,by omega,rfl,by go_num,Times1.step e f.out u hz.out hI.out C hB (by rw[o.out];exact hlt1) (by rw[h.out];exact hlt2) ha.lt hb.lt (Qc _ Gi) Gk⟩
     case measure=>simp[intOf];omega
    obtain rfl:k=m:=Gk
    have HR:Hid (Times1 w a b w.heap.size (i+1) 0 0 (wr.setCell ⟨w.heap.size,i+k,none⟩ (limb carry))):=by
     rw[<- h.out]at hP ⊢;exact hP.row (by rw[o.out];exact hlt1)
    obtain⟨out,e,f,u,hz,hI,C,hB⟩:=hP;have Y:=e.lt;have E:=e.cell (i+k);rw[Zaz out (i+k) (by rw[f,o.out,h.out];omega)]at E;have a0:=e.frozen (i+k);clear hz hI f e
    go_wp2
    go_roundw
    case rel=>exact⟨i+1,by omega,by go_num,HR.out⟩
    case measure=>simp[intOf];omega
  obtain rfl:i=n:=Gk
  have HF:Hid (OutL w (λl=>l.length=i+m/\val l=val a*val b) (.returned (.slice (some ⟨w.heap.size,0,none⟩) (i+m) (i+m))) wr):=by
   rw[<- h.out];have h1:=o.out;subst h1;exact Times1.stop hP (by rw[h.out];unfold maxLen;omega) rfl
  clear hP
  go_wp2
  go_ret;exact HF.out
def Zf8(b:Bool):Int:=if b then 0 else 8
theorem Ib{G:Prop}(h:G:=by
 go_wp2
 go_ret;exact⟨H8.out,hB.alloc hB.size _⟩):G:=h
theorem Iw{G:Prop}(h:G:=by
 go_wp2
 go_roundw
 case rel=>exact⟨k+1,by omega,by go_num,HG,hB.alloc hB.size _⟩
 case measure=>simp[intOf];omega):G:=h
theorem Zmy(A:Option Addr)(n c:Nat)(es:List WE)(w:World)(h:WL w A n c es) :
    Calls Tryz.prog 82 #[.slice A n c] w λe w'=>e=.returned (.int .i64 (Zf8 (es.all WE.ok)))/\Below w.heap.size w w':=by
 have a0:=h.2.1;have I:=h.2.2.1;unfold maxLen at I;go_in
 go_wp2
 go_loopw [8] (λv wr=>∃ k:Nat,k<=n/\v=.int .i64 k/\Hid (∀ e ∈ es.take k,e.ok=true)/\Below w.heap.size w wr) (λv _=>n-(intOf v).toNat)
 case atStart=>exact⟨0,Qf _,rfl,by unfold Hid;simp,Qb _ _⟩
 case round =>
  obtain⟨k,hk,rfl,ho,hB⟩:=hrel;by_cases hk0:k<n
  ·obtain⟨b,o,e,rfl,he,U,J,hL⟩:=(h.below hB).at_ hk0
   have O:=hL.2.1;have C:=hL.2.2.1;unfold maxLen at C;have HE:=Zb he;have HLen:=Zb hL.len
   have f:Hid (e.ok=true->∀ x ∈ es.take (k+1),x.ok=true):=λhok x hx=>by
    rw[List.take_add_one,HE.out]at hx;rcases List.mem_append.1 hx with hx|hx;exact ho.out x hx;simp at hx;subst hx;exact hok
   have u:Hid (e.ok=false->Ending.returned (.int .i64 8)=.returned (.int .i64 (Zf8 (es.all WE.ok)))):=λhok=>by
    have:es.all WE.ok=false:=by
     rw[List.all_eq_false];exact⟨e,List.mem_of_getElem? HE.out,by simp[hok]⟩
    rw[this];rfl
   obtain⟨neg,A1,n1,c1,l1⟩:=e;dsimp only at U J hL O C HLen;clear he;by_cases t1:n1<=4096
   ·by_cases t2:0<n1
    ·obtain⟨b1,o1,rfl,hx⟩:=hL.at_ (k:=n1-1) Gk
     have a1:=Zn hx;by_cases t3:l1[n1-1]?.getD 0=0
     ·have E:(((l1[n1-1]?.getD 0:Nat):Int) == 0)=true:=by simp[t3]
      have H8:=Zb (u.out (Zpi (by rw[HLen.out];exact t2) (by rw[HLen.out];exact t3)));clear t3 hL;exact Ib
     have E:(((l1[n1-1]?.getD 0:Nat):Int) == 0)=false:=by simpa using t3
     have HG:=Zb (f.out (Zvj (by rw[HLen.out];exact t2) (by rw[HLen.out];exact t1) (by rw[HLen.out];exact t3)));have Y:((n1:Int) == 0)=false:=by simp;omega
     clear t3 hL;cases neg
     all_goals
      exact Iw
    obtain rfl:n1=0:=Gk;cases neg
    ·have HG:=Zb (f.out (by unfold WE.ok;rw[Znl HLen.out];rfl))
     clear hL;exact Iw
    have H8:=Zb (u.out (by unfold WE.ok;rw[Znl HLen.out];rfl));clear hL;exact Ib
   have H8:=Zb (u.out (Zsd (by rw[HLen.out];omega)));clear hL;exact Ib
  obtain rfl:k=n:=Gk
  have HA:Hid (es.all WE.ok=true):=by
   unfold Hid;rw[List.all_eq_true];have:=ho.out;rw[List.take_of_length_le (by rw[h.len];exact Qa _)]at this;exact this
  go_wp2
  go_ret;exact⟨by rw[HA.out];rfl,hB⟩
theorem Zdn{A:Option Addr}{n c:Nat}{es:List WE}{w:World}(h:WL w A n c es)(hk:es.all WE.ok=true) :
    Calls Tryz.prog 82 #[.slice A n c] w λe w'=>e=.returned (.int .i64 0)/\Below w.heap.size w w':=
 (Zmy A n c es w h).mono λ_ _ ⟨he,hb⟩=>⟨by rw[he,hk];rfl,hb⟩
theorem Zm8(neg:Bool)(A:Option Addr)(n c:Nat)(l:List Nat)(w:World)(h:Lim w A n c l) :
    Calls Tryz.prog 128 #[.agg #[.bool neg,.slice A n c]] w λe w'=>e=.returned (.int .i64 (Zf8 (okW neg l)))/\Below w.heap.size w w':=by
 have hW:∀ X t,WL ((w.alloc X).alloc (.cells #[.bool neg,.slice A n c] t)) (some ⟨w.heap.size+1,0,none⟩) 1 1 [⟨neg,A,n,c,l⟩]:=λX t=>by
  have:=WL.one (neg:=neg) (h.alloc X) t;rw[World.size_alloc]at this;exact this
 have hW:=Zb hW;go_in;go_wp2_with (go_at_call 82;refine(Zmy _ _ _ _ _ (hW.out _ _)).mono ?_;rintro e w1 ⟨rfl,hb⟩);go_ret;exact⟨by simp[WE.ok],((Qb _ _).alloc (Qa _) _).alloc Gh _ |>.trans (hb.mono Gg)⟩
theorem Zgp{va vb:Nat}:(0<=Zch (digits va) (digits vb)) ↔ vb<=va:=by
 unfold Zch;rw[Zh,Zh]
 split
 ·rename_i h
  have:=(Zo va ((digits vb).length-1)).1 Gk;have h2:=Zf9 (n:=vb) (k:=(digits vb).length-1) Gk;constructor <;> intro <;> omega
 split
 ·rename_i h
  have:=(Zo vb ((digits va).length-1)).1 Gk;have h2:=Zf9 (n:=va) (k:=(digits va).length-1) Gk;constructor <;> intro <;> omega
 split
 ·constructor <;> intro <;> omega
 split <;> constructor <;> intro <;> omega
theorem Zjk(s:Bool)(a b:Nat):sg s (a+b)=sg s a+sg s b:=by unfold sg;split <;> omega
theorem Zez{s t:Bool}(h:s≠t){a b d:Nat}(hd:d+b=a):sg s d=sg s a+sg t b:=by
 cases s <;> cases t <;> simp_all [sg] <;> omega
theorem Zq{B:Nat}{w w':World}(h:Below B w.drew w'):Below B w w':=⟨h.os,h.tape,h.output,h.size,h.block⟩
theorem IT{G:Prop}(h:G:=by
 rcases Nat.lt_or_ge vb va with h|h;exact absurd (dq.out.2 (Nat.le_of_lt h)) cJ;exact h):G:=h
theorem Eh{G:Prop}(h:G:=by
 have aO:Below w.heap.size w w3:=(ab.trans ((Zq aa).mono ab.size)).trans (ae.mono (Nat.le_trans ab.size (Zq aa).size))
 go_wp2
 refine bodyPost_ret (v:=.tuple #[.agg #[.bool av,.slice A3 n3 c3],.int .i64 aH]) (by simp[results,Tryz.results104,go_sem,m3,m4]) rfl ?_;exact ResW.box (HZ l2 ck.2▸bV) aO Gk m7):G:=h
theorem Es{G:Prop}(h:G:=by
 simp only[World.size_alloc]at this;exact this):G:=h
theorem Ev{G:Prop}(h:G:=by
 have:=Blk.new ((w.alloc (.cells #[.bool na,.slice A n c] 30)).alloc (.cells #[.bool nb,.slice B m d] 30)) 30 #[.bool false,.slice none 0 0];simp only[World.size_alloc]at this;exact this):G:=h
theorem IE{G:Prop}(h:G:=by
 have:=Blk.new ((w.alloc (.cells #[.bool na,.slice A n c] 30)).alloc (.cells #[.bool na,.slice B m d] 30)) 30 #[.bool false,.slice none 0 0];exact Es):G:=h
theorem Zsr(na nb:Bool)(A B:Option Addr)(n c m d:Nat)(va vb:Nat)(w:World)(ha:Lim w A n c (digits va))(hb:Lim w B m d (digits vb))(hn:n<=4096)(hm:m<=4096) :
    Calls Tryz.prog 104 #[.agg #[.bool na,.slice A n c],.agg #[.bool nb,.slice B m d]] w (ResW w (sg na va+sg nb vb)):=by
 obtain⟨cv,J⟩:∃ x:Int,Zch (digits va) (digits vb)=x:=⟨_,rfl⟩;have HC:=Zb J;have dq:0<=cv ↔ vb<=va:=by rw[<- J];exact Zgp
 have dq:=Zb dq;by_cases hs:na=nb
 ·subst hs
  clear J;have HZ:∀ l:List Nat,val l=val (digits va)+val (digits vb)->sg na (val l)=sg na va+sg na vb:=λl h=>by rw[h,Zh,Zh,Zjk]
  go_in;go_wp2_with (go_at_call 107;refine(Zcj _ _ _ _ _ _ _ _ _ (((ha.alloc _).alloc _).alloc _) (((hb.alloc _).alloc _).alloc _)).mono ?_;rintro e w1 ⟨C,f⟩;rw[HC.out]at C;subst C;obtain⟨o,Y⟩:=Zdf f;have U:w.heap.size+1+1<w1.heap.size:=by(have:=f.size;simp at this;omega));have ab:Below w.heap.size w w1:=(((((Qb w.heap.size w).alloc (Qa _) _).alloc Gh _).alloc Gg _).trans (f.mono Gg));have I:=ha.below ab;have u:=hb.below ab;have g0:w1.cell? ⟨w.heap.size,0,none⟩=some (.bool na):=by simp[o,go_sem]
  have g1:w1.cell? ⟨w.heap.size,1,none⟩=some (.slice A n c):=by simp[o,go_sem]
  have f0:w1.cell? ⟨w.heap.size+1,0,none⟩=some (.bool na):=by simp[o,go_sem]
  have g2:w1.cell? ⟨w.heap.size+1,1,none⟩=some (.slice B m d):=by simp[o,go_sem]
  have g7:Blk w1 (w.heap.size+1+1) 30 #[.bool false,.slice none 0 0]:=by
   refine Zc f ?_;exact IE
  have g3:=g7.cell 0;have g4:=g7.cell 1;have g5:=g7.frozen 0;have g6:=g7.frozen 1;simp at g3 g4
  go_region_held3 (λw'=>w'.cell? ⟨w.heap.size,0,none⟩=some (.bool na)/\w'.cell? ⟨w.heap.size,1,none⟩=some (.slice A n c)/\w'.cell? ⟨w.heap.size+1,0,none⟩=some (.bool na)/\w'.cell? ⟨w.heap.size+1,1,none⟩=some (.slice B m d))
   (((try dsimp only);(repeat' apply Qn);all_goals (first|go_keep|(simp[*,go_sem];done))))
   (first
    | (go_at_call 135;refine(Zp2 _ _ _ _ _ _ _ _ _ (by exact I) (by exact u) Gk Gk).mono ?_;rintro e w2 ⟨A2,n2,c2,l2,rfl,O,ck,aa⟩;have k0:=Za aa g0;have k1:=Za aa g1;have j0:=Za aa f0;have k2:=Za aa g2;have k3:=Za aa g3;have k4:=Za aa g4;have k5:=Zl aa g3 g5;have k6:=Zl aa g4 g6;have k7:=Zc aa g7)
    | (go_at_call 102;refine(Zcd _ _ _ _ _ _ (by exact O)).mono ?_;rintro e w3 ⟨ae,av,A3,n3,c3,aH,rfl,bV⟩;have m0:=Za ae k0;have m1:=Za ae k1;have i0:=Za ae j0;have m2:=Za ae k2;have m3:=Za ae k3;have m4:=Za ae k4;have m5:=Zl ae k3 k5;have m6:=Zl ae k4 k6;have m7:=Zc ae k7))
  exact Eh
 have a0:(na == nb)=false:=by simpa using hs
 by_cases cJ:0<=cv
 ·have E:=dq.out.1 cJ
  have HLE:Hid (m<=n):=by have:=Zw E;rw[ha.len,hb.len]at this;exact this
  have HVL:Hid (val (digits vb)<=val (digits va)):=by rw[Zh,Zh];exact E
  have HZ:∀ l:List Nat,val l+val (digits vb)=val (digits va)->sg na (val l)=sg na va+sg nb vb:=λl h=>Zez hs (by rw[Zh,Zh]at h;exact h);clear J E hs;go_in;go_wp2_with (go_at_call 107;refine(Zcj _ _ _ _ _ _ _ _ _ (((ha.alloc _).alloc _).alloc _) (((hb.alloc _).alloc _).alloc _)).mono ?_;rintro e w1 ⟨C,f⟩;rw[HC.out]at C;subst C;obtain⟨o,Y⟩:=Zdf f;have U:w.heap.size+1+1<w1.heap.size:=by(have:=f.size;simp at this;omega));have ab:Below w.heap.size w w1:=(((((Qb w.heap.size w).alloc (Qa _) _).alloc Gh _).alloc Gg _).trans (f.mono Gg));have I:=ha.below ab;have u:=hb.below ab;have g0:w1.cell? ⟨w.heap.size,0,none⟩=some (.bool na):=by simp[o,go_sem]
  have g1:w1.cell? ⟨w.heap.size,1,none⟩=some (.slice A n c):=by simp[o,go_sem]
  have f0:w1.cell? ⟨w.heap.size+1,0,none⟩=some (.bool nb):=by simp[o,go_sem]
  have g2:w1.cell? ⟨w.heap.size+1,1,none⟩=some (.slice B m d):=by simp[o,go_sem]
  have g7:Blk w1 (w.heap.size+1+1) 30 #[.bool false,.slice none 0 0]:=by
   refine Zc f ?_;exact Ev
  have g3:=g7.cell 0;have g4:=g7.cell 1;have g5:=g7.frozen 0;have g6:=g7.frozen 1;simp at g3 g4
  go_region_held3 (λw'=>w'.cell? ⟨w.heap.size,0,none⟩=some (.bool na)/\w'.cell? ⟨w.heap.size,1,none⟩=some (.slice A n c)/\w'.cell? ⟨w.heap.size+1,0,none⟩=some (.bool nb)/\w'.cell? ⟨w.heap.size+1,1,none⟩=some (.slice B m d))
   (((try dsimp only);(repeat' apply Qn);all_goals (first|go_keep|(simp[*,go_sem];done))))
   (first
    | (go_at_call 136;refine(Zi4 _ _ _ _ _ _ _ _ _ (by exact I) (by exact u) HLE.out HVL.out Gk).mono ?_;rintro e w2 ⟨A2,n2,c2,l2,rfl,O,ck,aa⟩;have k0:=Za aa g0;have k1:=Za aa g1;have j0:=Za aa f0;have k2:=Za aa g2;have k3:=Za aa g3;have k4:=Za aa g4;have k5:=Zl aa g3 g5;have k6:=Zl aa g4 g6;have k7:=Zc aa g7)
    | (go_at_call 102;refine(Zcd _ _ _ _ _ _ (by exact O)).mono ?_;rintro e w3 ⟨ae,av,A3,n3,c3,aH,rfl,bV⟩;have m0:=Za ae k0;have m1:=Za ae k1;have i0:=Za ae j0;have m2:=Za ae k2;have m3:=Za ae k3;have m4:=Za ae k4;have m5:=Zl ae k3 k5;have m6:=Zl ae k4 k6;have m7:=Zc ae k7))
  exact Eh
 have E:va<=vb:=by
   exact IT
 have HLE:Hid (n<=m):=by have:=Zw E;rw[ha.len,hb.len]at this;exact this
 have HVL:Hid (val (digits va)<=val (digits vb)):=by rw[Zh,Zh];exact E
 have HZ:∀ l:List Nat,val l+val (digits va)=val (digits vb)->sg nb (val l)=sg na va+sg nb vb:=λl h=>by rw[Int.add_comm];exact Zez (Ne.symm hs) (by rw[Zh,Zh]at h;exact h)
 clear J E hs;go_in;go_wp2_with (go_at_call 107;refine(Zcj _ _ _ _ _ _ _ _ _ (((ha.alloc _).alloc _).alloc _) (((hb.alloc _).alloc _).alloc _)).mono ?_;rintro e w1 ⟨C,f⟩;rw[HC.out]at C;subst C;obtain⟨o,Y⟩:=Zdf f;have U:w.heap.size+1+1<w1.heap.size:=by(have:=f.size;simp at this;omega));have ab:Below w.heap.size w w1:=(((((Qb w.heap.size w).alloc (Qa _) _).alloc Gh _).alloc Gg _).trans (f.mono Gg));have I:=ha.below ab;have u:=hb.below ab;have g0:w1.cell? ⟨w.heap.size,0,none⟩=some (.bool na):=by simp[o,go_sem]
 have g1:w1.cell? ⟨w.heap.size,1,none⟩=some (.slice A n c):=by simp[o,go_sem]
 have f0:w1.cell? ⟨w.heap.size+1,0,none⟩=some (.bool nb):=by simp[o,go_sem]
 have g2:w1.cell? ⟨w.heap.size+1,1,none⟩=some (.slice B m d):=by simp[o,go_sem]
 have g7:Blk w1 (w.heap.size+1+1) 30 #[.bool false,.slice none 0 0]:=by
  refine Zc f ?_;exact Ev
 have g3:=g7.cell 0;have g4:=g7.cell 1;have g5:=g7.frozen 0;have g6:=g7.frozen 1;simp at g3 g4
 go_region_held3 (λw'=>w'.cell? ⟨w.heap.size,0,none⟩=some (.bool na)/\w'.cell? ⟨w.heap.size,1,none⟩=some (.slice A n c)/\w'.cell? ⟨w.heap.size+1,0,none⟩=some (.bool nb)/\w'.cell? ⟨w.heap.size+1,1,none⟩=some (.slice B m d))
  (((try dsimp only);(repeat' apply Qn);all_goals (first|go_keep|(simp[*,go_sem];done))))
  (first
   | (go_at_call 136;refine(Zi4 _ _ _ _ _ _ _ _ _ (by exact u) (by exact I) HLE.out HVL.out Gk).mono ?_;rintro e w2 ⟨A2,n2,c2,l2,rfl,O,ck,aa⟩;have k0:=Za aa g0;have k1:=Za aa g1;have j0:=Za aa f0;have k2:=Za aa g2;have k3:=Za aa g3;have k4:=Za aa g4;have k5:=Zl aa g3 g5;have k6:=Zl aa g4 g6;have k7:=Zc aa g7)
   | (go_at_call 102;refine(Zcd _ _ _ _ _ _ (by exact O)).mono ?_;rintro e w3 ⟨ae,av,A3,n3,c3,aH,rfl,bV⟩;have m0:=Za ae k0;have m1:=Za ae k1;have i0:=Za ae j0;have m2:=Za ae k2;have m3:=Za ae k3;have m4:=Za ae k4;have m5:=Zl ae k3 k5;have m6:=Zl ae k4 k6;have m7:=Zc ae k7))
 exact Eh
def Zoi(w:World)(a b:Nat)(e:Ending)(w':World):Prop:=
 ∃ A n c B m d,e=.returned (.tuple #[.slice A n c,.slice B m d])/\Lim w' A n c (digits (a/b))/\Lim w' B m d (digits (a%b))/\Below w.heap.size w w'
theorem Blk.setCells{w:World}{g g' o:Nat}{t:TypeId}{cs:Array Value}{us:List Value}(h:Blk w g t cs)(hne:g≠g'):Blk (w.setCells g' o us) g t cs:=by
 induction us generalizing o w with
 | nil=>exact h
 | cons u us ih=>exact ih (h.far hne u)
theorem Zlk{B:Nat}{w w':World}{g o:Nat}{us:List Value}(h:Below B w w')(hg:B<=g):Below B w (w'.setCells g o us):=by
 induction us generalizing o w' with
 | nil=>exact h
 | cons u us ih=>exact ih (h.setCell (p:=⟨g,o,none⟩) hg u)
theorem Zha{v:List Nat}{n:Nat}(hn:v.length=n)(h0:0<n)(hlt:Lt32 v):val v<(v[n-1]?.getD 0+1)*pw (n-1):=by
 have e:=Zaa v (n-1) Gk;rw[Zbn Gk,List.drop_of_length_le Gk]at e;have h1:=Zfn (hlt.take (n-1));rw[Qj,Nat.min_eq_left Gk]at h1;simp only[val]at e;rw[e,Nat.add_mul,Nat.one_mul,Nat.mul_comm (v[n-1]?.getD 0)];simp only[Nat.mul_zero,Nat.add_zero];omega
theorem Zki{v:Nat}(h:(digits v).length=1):digits v=[v]/\0<v/\v<4294967296:=by
 have hv:0<v:=length_digits_pos.1 Gk;have e:=Zdm v;rw[h]at e;have:v<4294967296:=e;refine⟨?_,hv,this⟩;rw[Zdb Gk,Qt this,Qu this,Zaq]
theorem Zpq(A B:Option Addr)(n c m d:Nat)(a b:Nat)(w:World)(ha:Lim w A n c (digits a))(hb:Lim w B m d (digits b))(hn:n<=100000)(h:a<b) :
    Calls Tryz.prog 106 #[.slice A n c,.slice B m d] w (Zoi w a b):=by
 have C:Hid (Zch (digits a) (digits b)<0):=by
  have:=(Zgp (va:=a) (vb:=b));unfold Hid;omega
 obtain⟨cv,f⟩:∃ x:Int,Zch (digits a) (digits b)=x:=⟨_,rfl⟩;have I:cv<0:=by rw[<- f];exact C.out
 have HC:=Zb f;clear C f;go_in;go_wp2_with fail;refine(Zcj _ _ _ _ _ _ _ _ _ ha hb).mono ?_;rintro e w1 ⟨u,o⟩;rw[HC.out]at u;subst u;go_wp2_with fail;refine(Zg4 _ _ _ _ _ (ha.below o) Gk).mono ?_;rintro e w2 ⟨v,rfl,hO,E⟩;obtain⟨A2,c2,hv,hL⟩:=hO.lim;subst hv;go_wp2_with fail
 go_ret2
 have hB:Below w.heap.size w w2:=Gs o E;exact⟨_,_,_,_,_,_,rfl,by rw[Qt h,Zaq];exact Lim.nil _ _ _ (Qf _),by rw[Qu h];rw[show (digits a).length=n from ha.len]at hL ⊢;exact hL,hB⟩
theorem Io{G:Prop}(h:G:=by
 have:=Lim.of_blk (l:=[r]) (Blk.new w2 t (Zt [r])) (Lt32.cons cW Lt32.nil) (by simp[maxLen]);exact this):G:=h
theorem Zqw(A B:Option Addr)(n c m d:Nat)(a b:Nat)(w:World)(ha:Lim w A n c (digits a))(hb:Lim w B m d (digits b))(hn:n<=100000)(h:b<=a)(hm:m=1) :
    Calls Tryz.prog 106 #[.slice A n c,.slice B m d] w (Zoi w a b):=by
 subst hm;have b0:=ha.2.1;have a4:=ha.2.2.1;have b1:=hb.2.1;have a6:=hb.2.2.1;unfold maxLen at a4 a6;obtain⟨cv,u⟩:∃ x:Int,Zch (digits a) (digits b)=x:=⟨_,rfl⟩;have I:¬ cv<0:=by rw[<- u];have:=(Zgp (va:=a) (vb:=b));omega
 have a5:decide (cv<0)=false:=by simpa using I
 have HC:=Zb u;clear u I;obtain⟨J,Y,E⟩:=Zki hb.len;obtain⟨g,o,rfl,f⟩:=hb.at_ (k:=0) Gk;rw[J]at f;simp at f;replace J:=Zb J;have cW:a%b<4294967296:=Qq (Qc _ Y) E;have a8:=Zb (Zh a);go_in;go_wp2_with fail;refine(Zcj _ _ _ _ _ _ _ _ _ ha hb).mono ?_;rintro e w1 ⟨a1,C⟩;rw[HC.out]at a1;subst a1;have a3:=Za C f;go_wp2_with fail;refine(Ztg _ _ _ b _ _ (ha.below C) Y E Gk).mono ?_;rintro e w2 ⟨A2,n2,c2,rfl,a2,a0⟩;rw[a8.out]at a2 ⊢;obtain⟨r,hr⟩:=Gz (a%b);rw[hr]at cW ⊢;replace hr:=Zb hr
 have a7:∀ t,Lim (w2.alloc (.cells #[limb r] t)) (some ⟨w2.heap.size,0,none⟩) 1 1 [r]:=λt=>by
  exact Io
 have O:=Zb a7;have a9:canon [r]=digits r:=by have:=Zqc (Lt32.cons cW Lt32.nil);simpa [val]using this
 go_wp2_with fail;refine(Zff _ _ _ _ _ (O.out _)).mono ?_;rintro e w3 ⟨rfl,rfl⟩;go_wp2_with fail
 go_ret2
 have U:=(O.out 143).canon.1;rw[show val [r]=r by simp[val]]at U ⊢;refine⟨_,_,_,_,_,_,rfl,a2.alloc _,by rw[hr.out];exact U,((Gs C a0)).alloc (Qk C.size a0.size) _⟩
theorem Lim.far{w:World}{A:Option Addr}{n c:Nat}{l:List Nat}(h:Lim w A n c l){p:Addr}{u:Value}(hne:∀ b o,A=some ⟨b,o,none⟩->b≠p.block):Lim (w.setCell p u) A n c l:=
 ⟨h.1,h.2.1,h.2.2.1,h.2.2.2.1,λhn=>by
  obtain⟨b,o,e,hc⟩:=h.2.2.2.2 hn;have hb:=hne b o e;exact⟨b,o,e,λk hk=>(Qi w _ _ u (λe2=>hb (by rw[e2]))).trans (hc k hk)⟩⟩
theorem Lim.setCells{A:Option Addr}{n c g:Nat}{l:List Nat}{us:List Value}(hne:∀ b o,A=some ⟨b,o,none⟩->b≠g):∀ {w:World} {o:Nat},Lim w A n c l->Lim (w.setCells g o us) A n c l:=by
 induction us with
 | nil=>exact λh=>h
 | cons u us ih=>exact λh=>ih (h.far hne)
theorem MutL.far{w:World}{g off:Nat}{l:List Nat}(h:MutL w g off l){p:Addr}{u:Value}(hne:g≠p.block):MutL (w.setCell p u) g off l:=λj hj =>
 ⟨(Qi w _ _ u (λe2=>hne (by rw[e2]))).trans (h j hj).1,by rw[World.frozen?_setCell];exact(h j hj).2⟩
theorem MutL.lim{w:World}{g:Nat}{l:List Nat}{n c:Nat}(h:MutL w g 0 l)(hl:l.length=n)(hnc:n<=c)(hcm:c<=maxLen)(hlt:Lt32 l):Lim w (some ⟨g,0,none⟩) n c l:=
 ⟨hl,hnc,hcm,hlt,λ_=>⟨g,0,rfl,λk hk=>(h k Gk).1⟩⟩
def DivR(w:World)(g q:Nat)(A:Option Addr)(c m nq:Nat)(vl:List Nat)(a b s k:Nat)(wr:World):Prop:=
 ∃ lu lq,DivI (2^s*a) (2^s*b) m lu lq k/\lq.length=nq/\MutL wr g 0 lu/\Blk wr q 143 (Zt lq)/\Lim wr A m c vl/\Below w.heap.size w wr
theorem DivR.step{w wr wr1:World}{g q:Nat}{A:Option Addr}{c m nq:Nat}{vl lu lq:List Nat}{a b s k:Nat}{l:List Nat}(hD:DivI (2^s*a) (2^s*b) m lu lq (k+1))(hq:lq.length=nq)(hM:MutL wr g 0 lu)(hB:Blk wr q 143 (Zt lq))
    (hL:Lim wr A m c vl) (hw:Below w.heap.size w wr) (hv:val vl=2^s*b) (hlen:l.length=m+1) (hlt:Lt32 l) (hl:val l=val ((lu.drop k).take (m+1))%val vl) (hb1:Below wr.heap.size wr wr1) (hQ:val ((lu.drop k).take (m+1))/val vl<4294967296)
    (hgq:g≠q) (hA:∀ b o,A=some ⟨b,o,none⟩->b≠g/\b≠q) (hg:w.heap.size<=g) (hqs:w.heap.size<=q) :
    DivR w g q A c m nq vl a b s k ((wr1.setCells g k (l.map limb)).setCell ⟨q,k,none⟩ (limb (val ((lu.drop k).take (m+1))/val vl))):=by
 have h:2^s*b<=pw m:=by rw[<- hv];exact Ql hL.lt_pw
 have f:k+l.length<=lu.length:=by have:=hD.2.2.1;have:=hD.2.2.2.1;omega
 refine⟨splice lu k l,lq.set k (val ((lu.drop k).take (m+1))/val vl),hD.step h hlen hlt hQ (by rw[hv]) (by rw[<- hv];exact hl),by rw[Qm];exact hq,
  ((hM.below hb1).splice f).far hgq,?_,((hL.below hb1).setCells (λb o e=>(hA b o e).1)).far (λb o e=>(hA b o e).2),?_⟩
 ·rw[<- Zbw]
  exact((hB.below hb1 hB.lt).setCells (Ne.symm hgq)).set_ _ _
 exact(Zlk (Gs hw hb1) hg).setCell (p:=⟨q,k,none⟩) hqs _
theorem Id{G:Prop}(h:G:=by
 have:=Lim.of_blk bF hD.2.1 (by rw[hq.out];unfold maxLen;omega);rw[hq.out]at this;exact this):G:=h
theorem Iz{G:Prop}(h:G:=by
 have h1:2^s*(x+1)<=2^s*2^(32-s):=Nat.mul_le_mul_left _ hxs;rw[<- Nat.pow_add,show s+(32-s)=32 by omega]at h1;exact h1):G:=h
theorem FK{G:Prop}(h:G:=by
 replace hfin:=Zb hfin;go_wp2_with fail
 go_roundw
 case rel=>exact⟨k,by omega,by go_num,hfin.out⟩
 case measure=>simp[intOf] <;> omega):G:=h
theorem FO{G:Prop}(h:G:=by
 have h1:=Zaa o3 m Gk;rcases Nat.eq_zero_or_pos (val (o3.drop m))with h0|h0;rw[h0]at h1;omega;have:=Nat.mul_le_mul_left (pw m) h0;omega):G:=h
theorem EP{G:Prop}(h:G:=by
 have h1:=DivI.start (a:=digits a) (b:=digits b) (u:=o4) (s:=s) (n:=m) (by rw[cA];exact cL.out) (by rw[cK.out,ha.len]) dK.2 (by rw[ha.len];exact ie) ha.lt (by rw[cB];have:=Nat.mul_le_mul_right (pw (m-1)) (show 1<=x by omega);omega) Gk;rw[cA,cB,ha.len]at h1;exact⟨o4,_,h1,by simp,eG.below ((Below.refl _ _).alloc (Nat.le_refl _) _),Blk.new _ _ _,aX.alloc _,en.alloc en.size _⟩):G:=h
theorem Zp1(A B:Option Addr)(n c m d:Nat)(a b:Nat)(w:World)(ha:Lim w A n c (digits a))(hb:Lim w B m d (digits b))(hn:n<=100000)(h:b<=a)(hm:2<=m) :
    Calls Tryz.prog 106 #[.slice A n c,.slice B m d] w (Zoi w a b):=by
 have i3:=ha.2.1;have g2:=ha.2.2.1;have i1:=hb.2.1;have g5:=hb.2.2.1;unfold maxLen at g2 g5;have ie:m<=n:=by have:=Zw h;rw[ha.len,hb.len]at this;exact this
 obtain⟨i0,hi,g0,h4,g7⟩:=info_parts Zdc;have i2:=Zgm (P:=Tryz.prog) 28 143 Tryz.underlying28 hi g0 h4 g7 ((n:Int)+1-m) (n+1-m) Gk Gk;obtain⟨cv,a3⟩:∃ x:Int,Zch (digits a) (digits b)=x:=⟨_,rfl⟩;have a9:¬ cv<0:=by rw[<- a3];have:=(Zgp (va:=a) (vb:=b));omega
 have f8:decide (cv<0)=false:=by simpa using a9
 have HC:=Zb a3;clear a3 a9;have i6:((m:Int) == 1)=false:=by simp;omega
 obtain⟨g,o,rfl,C⟩:=hb.at_ (k:=m-1) Gk;have f:=hb.len;have b5:=Ze4 (v:=b) Gk;have f0:=Zn3 f Gk;have a8:=hb.lt.get (m-1);have e8:=Zdm b;rw[f]at b5 e8;have U:=Zha f Gk hb.lt;rw[Zh]at f0 U;obtain⟨x,hx⟩:=Gz ((digits b)[m-1]?.getD 0);rw[hx]at C b5 f0 a8 U;replace f:=Zb f;replace hx:=Zb hx;have cA:=Zb (Zh a);have cB:=Zb (Zh b);go_in;go_wp2_with fail;refine(Zcj _ _ _ _ _ _ _ _ _ ha hb).mono ?_;rintro e w1 ⟨c9,I⟩;rw[HC.out]at c9;subst c9;have a6:=Za I C;go_wp2_with fail;refine(Zwf x _ Gk a8).mono ?_;rintro e w2 ⟨s,rfl,hs,hxs,rfl⟩;have f7:=ha.below I;have c7:=hb.below I;go_wp2_with fail
 go_region_with (first
  | (go_at_call 139;((with_reducible refine(Zp7 (some ⟨g,o,none⟩) m d s (digits b) _ c7.drew hs Gk).mono ?_));rintro e w3 ⟨v3,o3,rfl,e7,a0,a2,a5⟩;obtain⟨A3,c3,J,O⟩:=e7.lim;rw[a0]at J O;subst J;have h7:=O.2.1;have e4:=O.2.2.1;unfold maxLen at e4;replace a0:=Zb a0;replace a2:=Zb a2;clear e7)
  | (go_at_call 139;((with_reducible refine(Zp7 A n c s (digits a) _ (f7.drew.below a5) hs Gk).mono ?_));rintro e w4 ⟨v4,o4,rfl,dK,cK,cL,c0⟩;obtain⟨g4,c4,b4,i5,h8,e0,d9,eG⟩:=dK.mut Gk;rw[cK]at b4 e0;subst b4;unfold maxLen at d9;replace cK:=Zb cK;replace cL:=Zb cL))
 all_goals go_wp2_with fail
 all_goals
  replace cB:=cB.out;replace cA:=cA.out;rw[cB]at a2;rw[cA]at cL;have b1:=a0.out;have J:=a2.out
  have e3:2^s*(x+1)<=4294967296:=by
   exact Iz
  have e5:2^s*b<pw m:=by
   have h1:2^s*b<2^s*((x+1)*pw (m-1)):=Nat.mul_lt_mul_of_pos_left U (Qs Gk);have h2:2^s*((x+1)*pw (m-1))<=4294967296*pw (m-1):=by rw[<- Nat.mul_assoc];exact Qh _ e3
   rw[<- Zbh,show m-1+1=m by omega]at h2;omega
  have a4:val (o3.take m)=2^s*b:=by
   exact FO
  have aX:=(O.take (k:=m) Gk).below c0
  have i4:pw (m-1)<=2^s*b:=by
   have h1:=Qh (pw (m-1)) (show 1<=x by omega);have h2:1*b<=2^s*b:=Qh _ (Qs Gk);omega
  have h3:(o3.take m)[m-1]?.getD 0≠0:=λh0=>by
   have h1:=Zha (v:=o3.take m) (n:=m) (by rw[Qj,b1];omega) Gk aX.lt;rw[h0,a4]at h1;omega
  have en:Below w.heap.size w w4:=(I.trans ((Zq a5).mono I.size)).trans (c0.mono (Qk I.size (Zq a5).size))
  have a7:DivR w g4 w4.heap.size A3 c3 m (n+1-m) (o3.take m) a b s (n+1-m) (w4.alloc (.cells (Zt (Qp (n+1-m) 0)) 143)):=by
   exact EP
  have g6:∀ b o,A3=some ⟨b,o,none⟩->b≠g4/\b≠w4.heap.size:=λb o e=>by
   subst e;have h1:=Zn (O.cell (k:=0) Gk);have:=c0.size;simp only[]at h1;omega
  have g1:w.heap.size<=g4:=by have:=I.size;have:=(Zq a5).size;omega
  have c1:g4≠w4.heap.size:=Gk;clear eG dK cK cL a2 a0 cA cB C a6 J b1;replace a4:=Zb a4
  go_loopw [12] (λjv wr=>∃ k:Nat,k<=n+1-m/\jv=.int .i64 ((k:Int)-1)/\DivR w g4 w4.heap.size A3 c3 m (n+1-m) (o3.take m) a b s k wr) (λjv _=>(intOf jv+1).toNat)
  case atStart=>exact⟨n+1-m,Qa _,rfl,a7⟩
  case round =>
   obtain⟨k,hk,rfl,lu,lq,hD,hq,hM,bF,f4,b9⟩:=hrel;replace hq:=Zb hq;rcases k with _|k
   ·obtain⟨e1,e2⟩:=hD.stop
    have b7:Lim wr (some ⟨g4,0,none⟩) (n+1) c4 lu:=hM.lim (by have:=hD.2.2.1;have:=hq.out;omega) e0 (by unfold maxLen;omega) hD.1
    have h5:Lim wr (some ⟨w4.heap.size,0,none⟩) (n+1-m) (n+1-m) lq:=by
     exact Id
    have d8:=b7.canon.1;replace e1:=Zb e1;replace e2:=Zb e2;clear hD;go_wp2_with fail;refine(Zff _ _ _ _ _ b7).mono ?_;rintro e w5 ⟨rfl,rfl⟩;go_wp2_with fail;refine(Zs2 _ _ _ s _ _ d8 hs (by have:=b7.canon.2;omega)).mono ?_;rintro e w6 ⟨A6,n6,c6,o6,b6,rfl,c2,d0,a1⟩
    have hz:Hid (val o6=a%b):=by
     unfold Hid;rw[d0,Zh,e2.out,Nat.mul_div_cancel_left _ (Qs Gk)]
    clear d0;have b3:=h5.below a1;go_wp2_with fail;refine(Zff _ _ _ _ _ b3).mono ?_;rintro e w7 ⟨rfl,rfl⟩;go_wp2_with fail;refine(Zff _ _ _ _ _ c2).mono ?_;rintro e w8 ⟨rfl,rfl⟩;go_wp2_with fail
    go_ret2
    refine⟨_,_,_,_,_,_,rfl,?_,?_,Gs b9 a1⟩;rw[<- e1.out];exact b3.canon.1;rw[<- hz.out];exact c2.canon.1
   have h6:=hD;obtain⟨d1,d2,d3,d4,d5,d6,d7⟩:=h6;replace d3:=Zb d3;replace d5:=Zb d5;replace d7:=Zb d7;have e6:=bF.cell k;rw[Zaz lq k (by rw[hq.out];omega)]at e6;have g8:=bF.frozen k;go_wp2_with fail;have g9:2^s*b<=pw m:=Ql e5;obtain⟨c8,c5⟩:=hD.win g9;have E:((lu.drop k).take (m+1)).length=m+1:=by rw[Qj,List.length_drop,d3.out];omega
   have f9:MutL wr g4 k ((lu.drop k).take (m+1)):=by
    have:=hM.win (k:=k) (n:=m+1) (by rw[d3.out];omega)
    rwa [Nat.zero_add]at this
   have Y:val ((lu.drop k).take (m+1))<4294967296*val (o3.take m):=by rw[c8,a4.out];exact c5
   rw[show k+m+1-k=m+1 by omega];refine(Zvb g4 k m (c4-k) c3 A3 _ _ _ f9 E ((d1.drop k).take (m+1)) Gk (by unfold maxLen;omega) Gk Gk f4 Y h3).mono ?_;rintro e w5 ⟨l,w6,rfl,e9,f3,f5,a1,b8⟩
   have b2:val ((lu.drop k).take (m+1))/val (o3.take m)<4294967296:=by
    rw[Nat.div_lt_iff_lt_mul Gk];exact Y
   have hfin:=DivR.step (wr:=wr) hD hq.out hM bF f4 b9 a4.out (by rw[e9];exact E) f3 f5 a1 b2 c1 g6 g1 en.size;rw[<- b8]at hfin;have b0:Blk w5 w4.heap.size 143 (Zt lq):=by rw[b8];exact(bF.below a1 bF.lt).setCells (Ne.symm c1)
   have f6:=b0.cell k;rw[Zaz lq k (by rw[hq.out];omega)]at f6;have h9:=b0.frozen k;obtain⟨Q,hQ⟩:=Gz (val ((lu.drop k).take (m+1))/val (o3.take m));rw[hQ]at hfin b2 ⊢;clear e6 g8 b8 f5 e9 hQ c8 E Y c5;exact FK
theorem Zf0(A B:Option Addr)(n c m d:Nat)(a b:Nat)(w:World)(ha:Lim w A n c (digits a))(hb:Lim w B m d (digits b))(hn:n<=100000)(hb0:0<b) :
    Calls Tryz.prog 106 #[.slice A n c,.slice B m d] w (Zoi w a b):=by
 rcases Qg a b with h|h;exact Zpq A B n c m d a b w ha hb hn h;rcases Qg m 2 with h2|h2
 ·have h1:0<(digits b).length:=length_digits_pos.2 hb0
  rw[hb.len]at h1;exact Zqw A B n c m d a b w ha hb hn h Gk
 exact Zp1 A B n c m d a b w ha hb hn h h2
theorem Zvg(s:Bool)(v:Nat):sg (!s) v=- sg s v:=by cases s <;> simp[sg]
theorem sg_mul(s t:Bool)(a b:Nat):sg (s != t) (a*b)=sg s a*sg t b:=by cases s <;> cases t <;> simp[sg,Int.neg_mul,Int.mul_neg]
theorem Neg_ok(neg:Bool)(A:Option Addr)(n c:Nat)(z:Int)(w:World)(hz:Wd w neg A n c z) :
    Calls Tryz.prog 132 #[.agg #[.bool neg,.slice A n c]] w (ResW w (-z)):=by
 have hL:=hz.lim;have hn:=hz.2.1
 have hW:∀ X Y t,WL (((w.alloc X).alloc Y).alloc (.cells #[.bool neg,.slice A n c] t)) (some ⟨w.heap.size+1+1,0,none⟩) 1 1 [⟨neg,A,n,c,digits z.natAbs⟩]:=λX Y t=>by
  have:=WL.one (neg:=neg) ((hL.alloc X).alloc Y) t;exact Es
 have hW:=Zb hW;have E:∀ X Y Z:Obj,Below w.heap.size w (((w.alloc X).alloc Y).alloc Z):=λX Y Z=>(((Qb w.heap.size w).alloc (Qa _) _).alloc Gh _).alloc Gg _;have E:=Zb E;have C:Hid (okW neg (digits z.natAbs)=true):=hz.ok;have a3:=Zb hz.sgEq;clear hz;go_in;go_wp2_with fail;refine(Zdn (hW.out _ _ _) (by have:=C.out;simp[WE.ok,this])).mono ?_;rintro e w1 ⟨rfl,u⟩;obtain⟨J,a4⟩:=Zdf u;have a7:w.heap.size+1+1<w1.heap.size:=by have:=u.size;simp at this;omega
 have o:Below w.heap.size w w1:=(E.out _ _ _).trans (u.mono Gg);have g0:w1.cell? ⟨w.heap.size,0,none⟩=some (.bool neg):=by simp[J,go_sem]
 have g1:w1.cell? ⟨w.heap.size,1,none⟩=some (.slice A n c):=by simp[J,go_sem]
 have g7:Blk w1 (w.heap.size+1) 30 #[.bool false,.slice none 0 0]:=by
  refine Zc u (Blk.alloc ?_ _);have:=Qw (w.alloc (.cells #[.bool neg,.slice A n c] 30)) 30 #[.bool false,.slice none 0 0];exact Es
 have g3:=g7.cell 0;have g4:=g7.cell 1;have g5:=g7.frozen 0;have g6:=g7.frozen 1;simp at g3 g4;have a2:=hL.below o;clear J a4;go_wp2_with fail
 go_region_held3 (λw'=>w'.cell? ⟨w.heap.size,0,none⟩=some (.bool neg)/\w'.cell? ⟨w.heap.size,1,none⟩=some (.slice A n c))
  (((try dsimp only);(repeat' apply Qn);all_goals (first|go_keep|(simp[*,go_sem];done))))
  (first
   | (go_at_call 105;refine(Zg4 _ _ _ _ _ (by exact a2) Gk).mono ?_;rintro e w2 ⟨v2,rfl,U,f⟩;obtain⟨A2,c2,a1,a5⟩:=U.lim;subst a1;clear U;have k0:=Za f g0;have k1:=Za f g1;have k3:=Za f g3;have k4:=Za f g4;have k5:=Zl f g3 g5;have k6:=Zl f g4 g6;have k7:=Zc f g7)
   | (go_at_call 102;refine(Zcd _ _ _ _ _ _ (by exact a5)).mono ?_;rintro e w3 ⟨h,O,A3,n3,c3,I,rfl,a0⟩;have m0:=Za h k0;have m1:=Za h k1;have m3:=Za h k3;have m4:=Za h k4;have m5:=Zl h k3 k5;have m6:=Zl h k4 k6;have m7:=Zc h k7))
 have a6:Below w.heap.size w w3:=(o.trans ((Zq f).mono o.size)).trans (h.mono (Qk o.size (Zq f).size))
 have HZ:sg (!neg) (val (digits z.natAbs))=-z:=by
  have h1:=a3.out;rw[Zvg,h1]
 go_wp2
 refine bodyPost_ret (v:=.tuple #[.agg #[.bool O,.slice A3 n3 c3],.int .i64 I]) (by simp[results,Tryz.results132,go_sem,m3,m4]) rfl ?_;exact ResW.box (HZ▸a0) a6 Gk m7
def Zfq(a b:Int):Int:=if a<b then -1 else if b<a then 1 else 0
theorem Zed(a b:Nat):Zch (digits a) (digits b)=Zfq a b:=by
 unfold Zch Zfq;rw[Zh,Zh];have h1:a<=b->(digits a).length<=(digits b).length:=Zw;have h2:b<=a->(digits b).length<=(digits a).length:=Zw
 (repeat' split) <;> first|rfl|omega
theorem to_ok(na nb:Bool)(A B:Option Addr)(n c m d:Nat)(za zb:Int)(w:World)(ha:Wd w na A n c za)(hb:Wd w nb B m d zb) :
    Calls Tryz.prog 83 #[.agg #[.bool na,.slice A n c],.agg #[.bool nb,.slice B m d]] w λe w'=>e=.returned (.int .i64 (Zfq za zb))/\Below w.heap.size w w':=by
 have E:=ha.lim;have I:=hb.lim;have o:=ha.1;have u:=hb.1;have f:∀ X Y:Obj,Below w.heap.size w ((w.alloc X).alloc Y):=λX Y=>((Qb w.heap.size w).alloc (Qa _) _).alloc Gh _;have f:=Zb f;have O:=Zb (Zed za.natAbs zb.natAbs);have J:=Zb (Zed zb.natAbs za.natAbs)
 have hP:Hid (∀ (e:Ending) (w':World),(e=.returned (.int .i64 (Zch (digits za.natAbs) (digits zb.natAbs)))/\Below w.heap.size w w')->(na=false/\nb=false)->e=.returned (.int .i64 (Zfq za zb))/\Below w.heap.size w w'):=λe w' ⟨h1,h2⟩ ⟨h3,h4⟩=>by
  subst h3 h4;have h5:¬ za<0:=by intro h;simp[h]at o
  have h6:¬ zb<0:=by intro h;simp[h]at u
  refine⟨?_,h2⟩;rw[h1,O.out,show ((za.natAbs:Nat):Int)=za by omega,show ((zb.natAbs:Nat):Int)=zb by omega]
 have hN:Hid (∀ (e:Ending) (w':World),(e=.returned (.int .i64 (Zch (digits zb.natAbs) (digits za.natAbs)))/\Below w.heap.size w w')->(na=true/\nb=true)->e=.returned (.int .i64 (Zfq za zb))/\Below w.heap.size w w'):=λe w' ⟨h1,h2⟩ ⟨h3,h4⟩=>by
  subst h3 h4;have h5:za<0:=by by_cases h:za<0;exact h;simp[h]at o
  have h6:zb<0:=by by_cases h:zb<0;exact h;simp[h]at u
  refine⟨?_,h2⟩;rw[h1,J.out];congr 2;unfold Zfq
  split <;> split <;> (try split) <;> omega
 have hM:Hid (∀ b,na=b->nb=!b->Ending.returned (.int .i64 (if b then -1 else 1))=.returned (.int .i64 (Zfq za zb))):=λb h3 h4=>by
  refine Zih ?_;unfold Zfq;cases b
  ·have h5:¬ za<0:=by intro h;simp[h,h3]at o
   have h6:zb<0:=by by_cases h:zb<0;exact h;simp[h,h4]at u
   rw[Gw (show ¬ za<zb by omega),Gx (show zb<za by omega)];rfl
  have h5:za<0:=by by_cases h:za<0;exact h;simp[h,h3]at o
  have h6:¬ zb<0:=by intro h;simp[h,h4]at u
  rw[Gx (show za<zb by omega)];rfl
 clear ha hb o u;cases na <;> cases nb
 ·go_in
  go_wp2_with (go_at_call 107;((with_reducible refine(Zcj _ _ _ _ _ _ _ _ _ ((E.alloc _).alloc _) ((I.alloc _).alloc _)).mono ?_));rintro e w1 ⟨rfl,C⟩);go_ret;exact hP.out _ _ ⟨rfl,(f.out _ _).trans (C.mono Gg)⟩ Gh
 ·go_in
  go_wp2_with fail;go_ret;exact⟨hM.out false rfl rfl,f.out _ _⟩
 ·go_in
  go_wp2_with fail;go_ret;exact⟨hM.out true rfl rfl,f.out _ _⟩
 go_in
 go_wp2_with (go_at_call 107;((with_reducible refine(Zcj _ _ _ _ _ _ _ _ _ ((I.alloc _).alloc _) ((E.alloc _).alloc _)).mono ?_));rintro e w1 ⟨rfl,C⟩);go_ret;exact hN.out _ _ ⟨rfl,(f.out _ _).trans (C.mono Gg)⟩ Gh
theorem Zwr(na nb:Bool)(A B:Option Addr)(n c m d:Nat)(za zb:Int)(w:World)(ha:Wd w na A n c za)(hb:Wd w nb B m d zb) :
    Calls Tryz.prog 57 #[.agg #[.bool na,.slice A n c],.agg #[.bool nb,.slice B m d]] w λe w'=>e=.returned (.tuple #[.int .i64 (Zfq za zb),.int .i64 0])/\Below w.heap.size w w':=by
 have C:=ha.lim;have I:=hb.lim;have o:∀ X Y Z:Obj,Below w.heap.size w (((w.alloc X).alloc Y).alloc Z):=λX Y Z=>(((Qb w.heap.size w).alloc (Qa _) _).alloc Gh _).alloc Gg _
 have hW:∀ X Y t,WL (((w.alloc X).alloc Y).alloc (.cells #[.bool na,.slice A n c,.bool nb,.slice B m d] t)) (some ⟨w.heap.size+1+1,0,none⟩) 2 2 [⟨na,A,n,c,digits za.natAbs⟩,⟨nb,B,m,d,digits zb.natAbs⟩]:=λX Y t=>by
  have:=WL.two (neg:=na) (neg':=nb) ((C.alloc X).alloc Y) ((I.alloc X).alloc Y) t;exact Es
 have hW:=Zb hW;have o:=Zb o;have u:Hid (okW na (digits za.natAbs)=true/\okW nb (digits zb.natAbs)=true):=⟨ha.ok,hb.ok⟩;have J:∀ (fn:Fn) (first cap:Array Value) (w:World),(Instr.makeFunc fn first cap).run Tryz.prog w=.ok (.func fn first cap) w:=λ_ _ _ _=>rfl;have HA:=Zb ha;have HB:=Zb hb;clear ha hb;go_in;go_wp2_with fail;refine(Zdn (hW.out _ _ _) (by have:=u.out;simp[WE.ok,this])).mono ?_;rintro e w1 ⟨rfl,h⟩;obtain⟨a0,O⟩:=Zdf h;have U:w.heap.size+1+1<w1.heap.size:=by have:=h.size;simp at this;omega
 have f:Below w.heap.size w w1:=(o.out _ _ _).trans (h.mono Gg);go_wp2_with fail;refine(to_ok na nb A B n c m d za zb _ (HA.out.below f) (HB.out.below f)).mono ?_;rintro e w2 ⟨rfl,E⟩;go_wp2_with fail
 go_ret2
 exact⟨rfl,Gs f E⟩
def Ziu(w:World):Value->List Nat
 | .slice (some ad) n _=>(List.range n).map λk=>match w.cell? (ad.add k)with|some (.int _ x)=>x.toNat|_=>0
 | _=>[]
theorem Lim.mem{w:World}{A:Option Addr}{n c:Nat}{l:List Nat}(h:Lim w A n c l):Ziu w (.slice A n c)=l:=by
 rcases A with _|ad
 ·have hn:n=0:=by
    exact IX
  subst hn;exact(List.eq_nil_of_length_eq_zero h.len).symm
 unfold Ziu;apply List.ext_getElem (by simp[h.len]);intro i h1 h2;obtain⟨b,o,e,hc⟩:=h.at_ (k:=i) (by rw[<- h.len];exact h2);injection e with e
 subst e;simp only[List.getElem_map,List.getElem_range,Zf,hc];simp[List.getElem?_eq_getElem h2]
def GcdR(w:World)(t:TypeId)(G:Nat)(xv yv:Value)(wr:World):Prop:=
 ∃ (u v:Nat) (A:Option Addr) (n c:Nat) (B:Option Addr) (m d:Nat),xv=.slice A n c/\yv=.slice B m d/\Lim wr A n c (digits u)/\Lim wr B m d (digits v)/\n<=4096/\m<=4096/\Nat.gcd u v=G/\Blk wr (w.heap.size+1+1) t #[.bool false,.slice none 0 0]/\Below w.heap.size w wr
theorem Ih{G:Prop}(h:G:=by
 rcases Nat.eq_zero_or_pos v with h|h;exact h;have:=length_digits_pos.2 h;rw[aX.len]at this;omega):G:=h
theorem EQ{G:Prop}(h:G:=by
 rintro e w5 ⟨A6,n6,c6,B6,m6,d6,rfl,jF,fg,ao⟩;go_wp2_with fail
 go_roundw
 case rel=>exact⟨v,u%v,_,_,_,_,_,_,rfl,rfl,aX.below ao,fg,ic,by have:=Zw (Nat.le_of_lt (Nat.mod_lt u cY));rw[fg.len,aX.len]at this;omega,by rw[<- hg.out,Nat.gcd_comm u v,Nat.gcd_rec v u,Nat.gcd_comm],Zc ao az.out,Gs di ao⟩
 case measure=>simp only[eh.out,fg.mem,Zh];exact Nat.mod_lt u cY):G:=h
theorem IC{G:Prop}(h:G:=by
 have:=WL.two (neg:=na) (neg':=nb) (((aU.alloc X).alloc Y).alloc Z) (((aD.alloc X).alloc Y).alloc Z) t;exact Es):G:=h
theorem Zny(na nb:Bool)(A B:Option Addr)(n c m d:Nat)(za zb:Int)(w:World)(ha:Wd w na A n c za)(hb:Wd w nb B m d zb) :
    Calls Tryz.prog 78 #[.agg #[.bool na,.slice A n c],.agg #[.bool nb,.slice B m d]] w (ResW w (Nat.gcd za.natAbs zb.natAbs:Nat)):=by
 have aU:=ha.lim;have aD:=hb.lim;have hn:=ha.2.1;have hm:=hb.2.1;have U:∀ X Y Z V:Obj,Below w.heap.size w ((((w.alloc X).alloc Y).alloc Z).alloc V):=λX Y Z V=>((((Qb w.heap.size w).alloc (Qa _) _).alloc Gh _).alloc Gg _).alloc Gg _
 have hW:∀ X Y Z t,WL ((((w.alloc X).alloc Y).alloc Z).alloc (.cells #[.bool na,.slice A n c,.bool nb,.slice B m d] t)) (some ⟨w.heap.size+1+1+1,0,none⟩) 2 2 [⟨na,A,n,c,digits za.natAbs⟩,⟨nb,B,m,d,digits zb.natAbs⟩]:=λX Y Z t=>by
  exact IC
 have hW:=Zb hW;have U:=Zb U;have J:Hid (okW na (digits za.natAbs)=true/\okW nb (digits zb.natAbs)=true):=⟨ha.ok,hb.ok⟩;clear ha hb;generalize za.natAbs=va at *;generalize zb.natAbs=vb at *;obtain⟨G,hG⟩:=Gz (Nat.gcd va vb);rw[hG];replace hG:=Zb hG;go_in;go_wp2_with fail;refine(Zdn (hW.out _ _ _ _) (by have:=J.out;simp[WE.ok,this])).mono ?_;rintro e w1 ⟨rfl,C⟩;obtain⟨a1,b5⟩:=Zdf C;have b8:w.heap.size+1+1+1<w1.heap.size:=by have:=C.size;simp at this;omega
 have o:Below w.heap.size w w1:=(U.out _ _ _ _).trans (C.mono Gg);have g1:w1.cell? ⟨w.heap.size,1,none⟩=some (.slice A n c):=by simp[a1,go_sem]
 have g2:w1.cell? ⟨w.heap.size+1,1,none⟩=some (.slice B m d):=by simp[a1,go_sem]
 have g7:Blk w1 (w.heap.size+1+1) 30 #[.bool false,.slice none 0 0]:=by
  refine Zc C (Blk.alloc ?_ _);exact Ev
 have E:=aU.below o;have a2:=aD.below o;replace g7:=Zb g7;clear a1 b5;go_wp2_with fail
 go_region_held3 (λw'=>w'.cell? ⟨w.heap.size,1,none⟩=some (.slice A n c)/\w'.cell? ⟨w.heap.size+1,1,none⟩=some (.slice B m d))
  (((try dsimp only);(repeat' apply Qn);all_goals (first|go_keep|(simp[*,go_sem];done))))
  ((go_at_call 105;refine(Zg4 _ _ _ _ _ (by exact E) Gk).mono ?_;rintro e w2 ⟨v2,rfl,a8,a0⟩;obtain⟨A2,c2,a6,b0⟩:=a8.lim;rw[E.len]at a6 b0;subst a6;clear a8;have k1:=Za a0 g1;have k2:=Za a0 g2))
 have f:=Zq a0;have b3:Below w.heap.size w w2:=Gs o f;have m7:Hid (Blk w2 (w.heap.size+1+1) 30 #[.bool false,.slice none 0 0]):=Zc f g7.out;have a5:=a2.below f;go_wp2_with fail
 go_loopw [7,8] (λxv yv wr=>GcdR w 30 G xv yv wr) (λ_ yv wr=>val (Ziu wr yv))
 case atStart=>exact⟨va,vb,_,_,_,_,_,_,rfl,rfl,b0,a5,hn,hm,hG.out,m7.out,b3⟩
 case round =>
  obtain⟨u,v,A5,n5,c5,B5,m5,d5,rfl,rfl,I,aX,b7,ic,hg,az,di⟩:=hrel;replace hg:=Zb hg;replace az:=Zb az;by_cases hm0:0<m5
  ·have cY:0<v:=by rw[<- aX.len]at hm0;exact length_digits_pos.1 hm0
   have eh:=Zb aX.mem;go_wp2_with fail;refine(Zf0 _ _ _ _ _ _ u v _ I aX Gk cY).mono ?_;exact EQ
  obtain rfl:m5=0:=Gk
  have cY:v=0:=by
   exact Ih
  subst cY;have b1:Hid (u=G):=by have:=hg.out;rw[Nat.gcd_zero_right]at this;exact this
  have g8:=az.out;have g3:=g8.cell 0;have g4:=g8.cell 1;have g5:=g8.frozen 0;have g6:=g8.frozen 1;simp at g3 g4;clear g8;go_wp2_with fail;refine(Zg4 _ _ _ _ _ I Gk).mono ?_;rintro e w5 ⟨v5,rfl,b2,ao⟩;obtain⟨A6,c6,a9,a4⟩:=b2.lim;rw[I.len]at a9 a4;subst a9;go_wp2_with fail;refine(Zcd _ _ _ _ _ _ a4).mono ?_;rintro e w6 ⟨a7,a3,A7,n7,c7,O,rfl,b4⟩;have b6:Below w.heap.size w w6:=(Gs di ao).trans (a7.mono (Qk di.size ao.size));have m8:=Zc a7 (Zc ao az.out);have m3:=m8.cell 0;have m4:=m8.cell 1;have m5:=m8.frozen 0;have m6:=m8.frozen 1;simp at m3 m4;replace m8:=Zb m8;go_wp2_with fail;have HZ:sg false (val (digits u))=(G:Int):=by rw[Zh,b1.out];rfl
  refine bodyPost_ret (v:=.tuple #[.agg #[.bool a3,.slice A7 n7 c7],.int .i64 O]) (by simp[results,Tryz.results78,go_sem,m3,m4]) rfl ?_;exact ResW.box (HZ▸b4) b6 Gk m8.out
theorem fdm{z d q r:Int}(h:z=d*q+r)(hr:(0<=r/\r<d) \/ (d<r/\r<=0)):Qd z d=q/\Qe z d=r:=by
 rcases hr with ⟨h1,h2⟩|⟨h1,h2⟩;exact(Int.fdiv_fmod_unique Gk).2 ⟨by omega,h1,h2⟩;exact(Int.fdiv_fmod_unique' Gk).2 ⟨by omega,by omega,h2⟩
theorem Zg2(na nb:Bool)(U V:Nat)(hV:0<V)(h:U%V=0 \/ na=nb):Qd (sg na U) (sg nb V)=sg (na != nb) (U/V:Nat)/\Qe (sg na U) (sg nb V)=sg nb (U%V:Nat):=by
 have h1:=Qv U V;have h2:=Qc U hV;generalize U/V=x at *;generalize U%V=y at *;subst h1;have e:((V*x+y:Nat):Int)=(V:Int)*x+y:=by push_cast;rfl
 apply fdm
 ·cases na <;> cases nb <;> simp only[sg,e] <;> simp at h ⊢ <;> grind
 cases na <;> cases nb <;> simp[sg]at h ⊢ <;> omega
theorem Zmp(na nb:Bool)(U V:Nat)(hV:0<V)(hy:0<U%V)(h:na≠nb):Qd (sg na U) (sg nb V)=sg (na != nb) (U/V+1:Nat)/\Qe (sg na U) (sg nb V)=sg nb (V-U%V:Nat):=by
 have h1:=Qv U V;have h2:=Qc U hV;generalize U/V=x at *;generalize U%V=y at *;subst h1;have e:((V*x+y:Nat):Int)=(V:Int)*x+y:=by push_cast;rfl
 have e2:((V-y:Nat):Int)=(V:Int)-y:=Gk;apply fdm
 ·cases na <;> cases nb <;> simp only[sg,e,e2] <;> simp at h ⊢ <;> grind
 cases na <;> cases nb <;> simp[sg]at h ⊢ <;> omega
def Ziq(w:World)(za zb:Int)(e:Ending)(w':World):Prop:=
 Below w.heap.size w w'/\∃ nq Aq kq cq nr Ar kr cr,e=.returned (.tuple #[.agg #[.bool nq,.slice Aq kq cq],.agg #[.bool nr,.slice Ar kr cr],.int .i64 0])/\Wd w' nq Aq kq cq (Qd za zb)/\Wd w' nr Ar kr cr (Qe za zb)
theorem Iu{G:Prop}(h:G:=by
 rcases Nat.eq_zero_or_pos m2 with h|h;exact h;rw[<- aP.len]at h;have:=length_digits_pos.1 h;have:=hy.out;omega):G:=h
theorem FM{G:Prop}(h:G:=by
 rw[<- aV];exact Lim.set_box (Lim.set_box (aP.below ao) ay.out (NoLimb.box _ _ _ _) 0 _) (ay.out.set_ 0 _) (NoLimb.box _ _ _ _) 1 _):G:=h
theorem EA{G:Prop}(h:G:=by
 rw[<- aV];exact⟨ct.1,ct.2.1,Lim.set_box (Lim.set_box ct.2.2 ay.out (NoLimb.box _ _ _ _) 0 _) (ay.out.set_ 0 _) (NoLimb.box _ _ _ _) 1 _⟩):G:=h
theorem Ez{G:Prop}(h:G:=by
 rcases eH with ⟨-,rfl,fI⟩|⟨aY,-⟩
 case inr=>exact absurd dN Gk
 have r1:=cF.out.cell 0;have r2:=cF.out.cell 1;have r3:=cF.out.frozen 0;have r4:=cF.out.frozen 1;simp at r1 r2;go_wp2_with fail;generalize hw8:(w7.setCell ⟨w.heap.size+1+1+1,0,none⟩ (.bool bu)).setCell ⟨w.heap.size+1+1+1,1,none⟩ (.slice A7 n7 c7)=w8;have cO:Blk w8 (w.heap.size+1+1) 30 #[.bool aq,.slice A5 n5 c5]:=by rw[<- hw8];exact(fX.out.far Gf _).far Gf _
 have dx:Blk w8 (w.heap.size+1+1+1) 30 #[.bool bu,.slice A7 n7 c7]:=by rw[<- hw8];exact(cF.out.set_ 0 _).set_ 1 _
 have eC:Below w.heap.size w w8:=by rw[<- hw8];exact(cP.setCell (p:=⟨w.heap.size+1+1+1,0,none⟩) Gf _).setCell (p:=⟨w.heap.size+1+1+1,1,none⟩) Gf _
 have fF:Wd w8 aq A5 n5 c5 ZQ:=by
  rw[<- hw8];have fE:=fD.below az;exact⟨fE.1,fE.2.1,Lim.set_box (Lim.set_box fE.2.2 cF.out (NoLimb.box _ _ _ _) 0 _) (cF.out.set_ 0 _) (NoLimb.box _ _ _ _) 1 _⟩
 have fJ:Wd w8 bu A7 n7 c7 ZR:=by
  rw[<- hw8];exact⟨fI.1,fI.2.1,Lim.set_box (Lim.set_box fI.2.2 cF.out (NoLimb.box _ _ _ _) 0 _) (cF.out.set_ 0 _) (NoLimb.box _ _ _ _) 1 _⟩
 have s1:=cO.cell 0;have s2:=cO.cell 1;have s3:=cO.frozen 0;have s4:=cO.frozen 1;have s5:=dx.cell 0;have s6:=dx.cell 1;have s7:=dx.frozen 0;have s8:=dx.frozen 1;simp at s1 s2 s5 s6;replace cO:=Zb cO;replace dx:=Zb dx;clear hw8 r1 r2 r3 r4
 go_region
 go_wp2
 generalize hw9:((((w8.setCell ⟨w.heap.size+1+1,0,none⟩ (.bool aq)).setCell ⟨w.heap.size+1+1,1,none⟩ (.slice A5 n5 c5)).setCell ⟨w.heap.size+1+1+1,0,none⟩ (.bool bu)).setCell ⟨w.heap.size+1+1+1,1,none⟩ (.slice A7 n7 c7)).drew=w9;have b1:=(cO.out.set_ 0 (.bool aq)).set_ 1 (.slice A5 n5 c5);have b2:=(dx.out.far (p:=⟨w.heap.size+1+1,0,none⟩) Gf (.bool aq)).far (p:=⟨w.heap.size+1+1,1,none⟩) Gf (.slice A5 n5 c5);have b3:Blk w9 (w.heap.size+1+1) 30 #[.bool aq,.slice A5 n5 c5]:=by rw[<- hw9];exact(b1.far Gf _).far Gf _
 have b4:Blk w9 (w.heap.size+1+1+1) 30 #[.bool bu,.slice A7 n7 c7]:=by rw[<- hw9];exact(b2.set_ 0 _).set_ 1 _
 have dy:Below w.heap.size w w9:=by rw[<- hw9];exact Zg ((((eC.setCell (p:=⟨w.heap.size+1+1,0,none⟩) Gf _).setCell (p:=⟨w.heap.size+1+1,1,none⟩) Gf _).setCell (p:=⟨w.heap.size+1+1+1,0,none⟩) Gf _).setCell (p:=⟨w.heap.size+1+1+1,1,none⟩) Gf _) 1
 have cu:∀ (A:Option Addr) (n c:Nat) (l:List Nat),Lim w8 A n c l->Lim w9 A n c l:=λA n c l h=>by
  rw[<- hw9];exact Lim.set_box (Lim.set_box (Lim.set_box (Lim.set_box h cO.out (NoLimb.box _ _ _ _) 0 _) (cO.out.set_ 0 _) (NoLimb.box _ _ _ _) 1 _) b2 (NoLimb.box _ _ _ _) 0 _) (b2.set_ 0 _) (NoLimb.box _ _ _ _) 1 _
 have t1:=b3.cell 0;have t2:=b3.cell 1;have t3:=b4.cell 0;have t4:=b4.cell 1;simp at t1 t2 t3 t4;refine bodyPost_ret (v:=.tuple #[.agg #[.bool aq,.slice A5 n5 c5],.agg #[.bool bu,.slice A7 n7 c7],.int .i64 0]) (by simp[results,Tryz.results133,go_sem,t1,t2,t3,t4]) rfl ?_;exact hfin.out _ _ ⟨dy,_,_,_,_,_,_,_,_,rfl,⟨fF.1,fF.2.1,cu _ _ _ _ fF.2.2⟩,⟨fJ.1,fJ.2.1,cu _ _ _ _ fJ.2.2⟩⟩):G:=h
theorem Cz{G:Prop}(h:G:=by
 have:=WL.two (neg:=na) (neg':=nb) ((((aU.alloc X).alloc Y).alloc Z).alloc V) ((((aD.alloc X).alloc Y).alloc Z).alloc V) t;exact Es):G:=h
theorem ID{G:Prop}(h:G:=by
 clear aV q1 q2 q3 q4 ct;refine(Zcd _ _ _ _ _ _ dY).mono ?_;rintro e w7 ⟨az,bu,A7,n7,c7,gy,rfl,eH⟩;have cP:Below w.heap.size w w7:=Gs bz az;have fX:Hid (Blk w7 (w.heap.size+1+1) 30 #[.bool aq,.slice A5 n5 c5]):=Zc az fW.out;have cF:Hid (Blk w7 (w.heap.size+1+1+1) 30 #[.bool false,.slice none 0 0]):=Zc az fZ.out;rw[Zh,<- cM.out]at eH;exact Ez):G:=h
theorem IF{G:Prop}(h:G:=by
 have:=Blk.new (((w.alloc (.cells #[.bool na,.slice A n c] 30)).alloc (.cells #[.bool nb,.slice B m d] 30)).alloc (.cells #[.bool false,.slice none 0 0] 30)) 30 #[.bool false,.slice none 0 0];exact Es):G:=h
theorem Zpu(na nb:Bool)(A B:Option Addr)(n c m d:Nat)(za zb:Int)(w:World)(ha:Wd w na A n c za)(hb:Wd w nb B m d zb)(h0:zb≠0)(hy:za.natAbs%zb.natAbs=0) :
    Calls Tryz.prog 133 #[.agg #[.bool na,.slice A n c],.agg #[.bool nb,.slice B m d]] w (Ziq w za zb):=by
 have aU:=ha.lim;have aD:=hb.lim;have hn:=ha.2.1;have hm:=hb.2.1;have b5:=aD.2.2.1;have d8:=aD.2.1;unfold maxLen at b5;have a1:∀ X Y Z V U:Obj,Below w.heap.size w (((((w.alloc X).alloc Y).alloc Z).alloc V).alloc U):=λX Y Z V U=>(((((Qb w.heap.size w).alloc (Qa _) _).alloc Gh _).alloc Gg _).alloc Gg _).alloc Gg _
 have hW:∀ X Y Z V t,WL (((((w.alloc X).alloc Y).alloc Z).alloc V).alloc (.cells #[.bool na,.slice A n c,.bool nb,.slice B m d] t)) (some ⟨w.heap.size+1+1+1+1,0,none⟩) 2 2 [⟨na,A,n,c,digits za.natAbs⟩,⟨nb,B,m,d,digits zb.natAbs⟩]:=λX Y Z V t=>by
  exact Cz
 have hW:=Zb hW;have a1:=Zb a1;have O:Hid (okW na (digits za.natAbs)=true/\okW nb (digits zb.natAbs)=true):=⟨ha.ok,hb.ok⟩;have a0:=ha.sgEq;have a3:=hb.sgEq;rw[Zh]at a0 a3;have hU:=ha.small;have hV:=hb.small;clear ha hb;have I:0<zb.natAbs:=Gk;have d5:0<m:=by rw[<- aD.len];exact length_digits_pos.2 I
 have c9:((m:Int) == 0)=false:=by simp;omega
 obtain⟨o,cM⟩:=Zg2 na nb za.natAbs zb.natAbs I (Or.inl hy);rw[a0,a3]at o cM;clear a0 a3 h0;generalize za.natAbs=U at *;generalize zb.natAbs=V at *;have a4:(sg (na != nb) (U/V)).natAbs<pw 4096:=by rw[Z0];exact Qr (Qo _ _) hU
 have dN:(sg nb (U%V)).natAbs<pw 4096:=by rw[Z0];exact Qq (Qc _ I) hV
 rw[<- o]at a4;rw[<- cM]at dN;have hfin:Hid (∀ (e:Ending) (w':World),(Below w.heap.size w w'/\∃ nq Aq kq cq nr Ar kr cr,e=.returned (.tuple #[.agg #[.bool nq,.slice Aq kq cq],.agg #[.bool nr,.slice Ar kr cr],.int .i64 0])/\Wd w' nq Aq kq cq (Qd za zb)/\Wd w' nr Ar kr cr (Qe za zb))->Ziq w za zb e w'):=λ_ _ h=>h;generalize Qd za zb=ZQ at *;generalize Qe za zb=ZR at *;replace o:=Zb o;replace cM:=Zb cM;replace hy:=Zb hy;go_in;go_wp2_with fail;refine(Zdn (hW.out _ _ _ _ _) (by have:=O.out;simp[WE.ok,this])).mono ?_;rintro e w1 ⟨rfl,C⟩;obtain⟨u,c4⟩:=Zdf C;have d4:w.heap.size+1+1+1+1<w1.heap.size:=by have:=C.size;simp at this;omega
 have E:Below w.heap.size w w1:=(a1.out _ _ _ _ _).trans (C.mono Gg);have g0:w1.cell? ⟨w.heap.size,0,none⟩=some (.bool na):=by simp[u,go_sem]
 have g1:w1.cell? ⟨w.heap.size,1,none⟩=some (.slice A n c):=by simp[u,go_sem]
 have g2:w1.cell? ⟨w.heap.size+1,0,none⟩=some (.bool nb):=by simp[u,go_sem]
 have g3:w1.cell? ⟨w.heap.size+1,1,none⟩=some (.slice B m d):=by simp[u,go_sem]
 have bq:Hid (Blk w1 (w.heap.size+1+1) 30 #[.bool false,.slice none 0 0]):=by
  refine Zc C (Blk.alloc (Blk.alloc ?_ _) _);exact Ev
 have br:Hid (Blk w1 (w.heap.size+1+1+1) 30 #[.bool false,.slice none 0 0]):=by
  refine Zc C (Blk.alloc ?_ _);exact IF
 have a5:=aU.below E;have a8:=aD.below E;clear u c4;go_wp2_with fail;refine(Zf0 _ _ _ _ _ _ U V _ a5 a8 Gk I).mono ?_;rintro e w2 ⟨A2,n2,c2,B2,m2,d2,rfl,a9,aP,f⟩;have a7:Below w.heap.size w w2:=Gs E f;have a6:=aP.2.2.1;have c8:=aP.2.1;unfold maxLen at a6;have c0:=Za f g0;have c1:=Za f g1;have c3:=Za f g2;have c6:=Za f g3;have b0:Hid (Blk _ _ _ _):=Zc f bq.out;have b6:Hid (Blk _ _ _ _):=Zc f br.out
 have b7:m2=0:=by
  exact Iu
 subst b7;go_wp2_with fail;refine(Zcd _ _ _ _ _ _ a9).mono ?_;rintro e w5 ⟨ao,aq,A5,n5,c5,a2,rfl,J⟩;have b9:Below w.heap.size w w5:=Gs a7 ao;have d0:=Za ao c0;have d3:=Za ao c1;have d7:=Za ao c3;have d6:=Za ao c6;have ay:Hid (Blk _ _ _ _):=Zc ao b0.out;have b8:Hid (Blk _ _ _ _):=Zc ao b6.out;change ResP w5 (sg (na != nb) _) aq A5 n5 c5 a2 at J;rw[Zh,<- o.out]at J;rcases J with ⟨-,rfl,ct⟩|⟨aY,-⟩
 case inr=>exact absurd a4 Gk
 have q1:=ay.out.cell 0;have q2:=ay.out.cell 1;have q3:=ay.out.frozen 0;have q4:=ay.out.frozen 1;simp at q1 q2;go_wp2_with fail;generalize aV:(w5.setCell ⟨w.heap.size+1+1,0,none⟩ (.bool aq)).setCell ⟨w.heap.size+1+1,1,none⟩ (.slice A5 n5 c5)=w6;have fW:Hid (Blk w6 (w.heap.size+1+1) 30 #[.bool aq,.slice A5 n5 c5]):=by rw[<- aV];exact(ay.out.set_ 0 _).set_ 1 _
 have fZ:Hid (Blk w6 (w.heap.size+1+1+1) 30 #[.bool false,.slice none 0 0]):=by rw[<- aV];exact(b8.out.far Gf _).far Gf _
 have bz:Below w.heap.size w w6:=by rw[<- aV];exact(b9.setCell (p:=⟨w.heap.size+1+1,0,none⟩) Gf _).setCell (p:=⟨w.heap.size+1+1,1,none⟩) Gf _
 have fD:Wd w6 aq A5 n5 c5 ZQ:=by
  exact EA
 have dY:Lim w6 B2 0 d2 (digits (U%V)):=by
  exact FM
 exact ID
theorem Cy{G:Prop}(h:G:=by
 have:=Blk.new (((w.alloc (.cells #[.bool na,.slice A n c] 30)).alloc (.cells #[.bool na,.slice B m d] 30)).alloc (.cells #[.bool false,.slice none 0 0] 30)) 30 #[.bool false,.slice none 0 0];exact Es):G:=h
theorem Zqf(na nb:Bool)(A B:Option Addr)(n c m d:Nat)(za zb:Int)(w:World)(ha:Wd w na A n c za)(hb:Wd w nb B m d zb)(h0:zb≠0)(hy:0<za.natAbs%zb.natAbs)(hs:na=nb) :
    Calls Tryz.prog 133 #[.agg #[.bool na,.slice A n c],.agg #[.bool nb,.slice B m d]] w (Ziq w za zb):=by
 have aU:=ha.lim;have aD:=hb.lim;have hn:=ha.2.1;have hm:=hb.2.1;have b5:=aD.2.2.1;have e0:=aD.2.1;unfold maxLen at b5;have a1:∀ X Y Z V U:Obj,Below w.heap.size w (((((w.alloc X).alloc Y).alloc Z).alloc V).alloc U):=λX Y Z V U=>(((((Qb w.heap.size w).alloc (Qa _) _).alloc Gh _).alloc Gg _).alloc Gg _).alloc Gg _
 have hW:∀ X Y Z V t,WL (((((w.alloc X).alloc Y).alloc Z).alloc V).alloc (.cells #[.bool na,.slice A n c,.bool nb,.slice B m d] t)) (some ⟨w.heap.size+1+1+1+1,0,none⟩) 2 2 [⟨na,A,n,c,digits za.natAbs⟩,⟨nb,B,m,d,digits zb.natAbs⟩]:=λX Y Z V t=>by
  exact Cz
 have hW:=Zb hW;have a1:=Zb a1;have O:Hid (okW na (digits za.natAbs)=true/\okW nb (digits zb.natAbs)=true):=⟨ha.ok,hb.ok⟩;have a0:=ha.sgEq;have a2:=hb.sgEq;rw[Zh]at a0 a2;have hU:=ha.small;have hV:=hb.small;clear ha hb;have I:0<zb.natAbs:=Gk;have d6:0<m:=by rw[<- aD.len];exact length_digits_pos.2 I
 have d0:((m:Int) == 0)=false:=by simp;omega
 obtain⟨o,cM⟩:=Zg2 na nb za.natAbs zb.natAbs I (Or.inr hs);rw[a0,a2]at o cM;clear a0 a2 h0;generalize za.natAbs=U at *;generalize zb.natAbs=V at *;have a3:(sg (na != nb) (U/V)).natAbs<pw 4096:=by rw[Z0];exact Qr (Qo _ _) hU
 have dN:(sg nb (U%V)).natAbs<pw 4096:=by rw[Z0];exact Qq (Qc _ I) hV
 rw[<- o]at a3;rw[<- cM]at dN;have hfin:Hid (∀ (e:Ending) (w':World),(Below w.heap.size w w'/\∃ nq Aq kq cq nr Ar kr cr,e=.returned (.tuple #[.agg #[.bool nq,.slice Aq kq cq],.agg #[.bool nr,.slice Ar kr cr],.int .i64 0])/\Wd w' nq Aq kq cq (Qd za zb)/\Wd w' nr Ar kr cr (Qe za zb))->Ziq w za zb e w'):=λ_ _ h=>h;generalize Qd za zb=ZQ at *;generalize Qe za zb=ZR at *;replace o:=Zb o;replace cM:=Zb cM;subst hs;have c6:(na != na)=false:=Gh
 go_in;go_wp2_with fail;refine(Zdn (hW.out _ _ _ _ _) (by have:=O.out;simp[WE.ok,this])).mono ?_;rintro e w1 ⟨rfl,C⟩;obtain⟨u,c4⟩:=Zdf C;have d5:w.heap.size+1+1+1+1<w1.heap.size:=by have:=C.size;simp at this;omega
 have E:Below w.heap.size w w1:=(a1.out _ _ _ _ _).trans (C.mono Gg);have g0:w1.cell? ⟨w.heap.size,0,none⟩=some (.bool na):=by simp[u,go_sem]
 have g1:w1.cell? ⟨w.heap.size,1,none⟩=some (.slice A n c):=by simp[u,go_sem]
 have g2:w1.cell? ⟨w.heap.size+1,0,none⟩=some (.bool na):=by simp[u,go_sem]
 have g3:w1.cell? ⟨w.heap.size+1,1,none⟩=some (.slice B m d):=by simp[u,go_sem]
 have bq:Hid (Blk w1 (w.heap.size+1+1) 30 #[.bool false,.slice none 0 0]):=by
  refine Zc C (Blk.alloc (Blk.alloc ?_ _) _);exact IE
 have br:Hid (Blk w1 (w.heap.size+1+1+1) 30 #[.bool false,.slice none 0 0]):=by
  refine Zc C (Blk.alloc ?_ _);exact Cy
 have a5:=aU.below E;have a8:=aD.below E;clear u c4;go_wp2_with fail;refine(Zf0 _ _ _ _ _ _ U V _ a5 a8 Gk I).mono ?_;rintro e w2 ⟨A2,n2,c2,B2,m2,d2,rfl,a9,aP,f⟩;have a7:Below w.heap.size w w2:=Gs E f;have a6:=aP.2.2.1;have c9:=aP.2.1;unfold maxLen at a6;have b9:=Za f g0;have c1:=Za f g1;have c3:=Za f g2;have c8:=Za f g3;have b0:Hid (Blk _ _ _ _):=Zc f bq.out;have b6:Hid (Blk _ _ _ _):=Zc f br.out;have d7:0<m2:=by rw[<- aP.len];exact length_digits_pos.2 hy
 go_wp2_with fail;refine(Zcd _ _ _ _ _ _ a9).mono ?_;rintro e w5 ⟨ao,aq,A5,n5,c5,c0,rfl,a4⟩;have b8:Below w.heap.size w w5:=Gs a7 ao;have d3:=Za ao b9;have d4:=Za ao c1;have d9:=Za ao c3;have d8:=Za ao c8;have ay:Hid (Blk _ _ _ _):=Zc ao b0.out;have b7:Hid (Blk _ _ _ _):=Zc ao b6.out;have J:=o.out;rw[c6]at J;rw[Zh,<- J]at a4;rcases a4 with ⟨-,rfl,ct⟩|⟨aY,-⟩
 case inr=>exact absurd a3 Gk
 have q1:=ay.out.cell 0;have q2:=ay.out.cell 1;have q3:=ay.out.frozen 0;have q4:=ay.out.frozen 1;simp at q1 q2;go_wp2_with fail;generalize aV:(w5.setCell ⟨w.heap.size+1+1,0,none⟩ (.bool aq)).setCell ⟨w.heap.size+1+1,1,none⟩ (.slice A5 n5 c5)=w6;have fW:Hid (Blk w6 (w.heap.size+1+1) 30 #[.bool aq,.slice A5 n5 c5]):=by rw[<- aV];exact(ay.out.set_ 0 _).set_ 1 _
 have fZ:Hid (Blk w6 (w.heap.size+1+1+1) 30 #[.bool false,.slice none 0 0]):=by rw[<- aV];exact(b7.out.far Gf _).far Gf _
 have bz:Below w.heap.size w w6:=by rw[<- aV];exact(b8.setCell (p:=⟨w.heap.size+1+1,0,none⟩) Gf _).setCell (p:=⟨w.heap.size+1+1,1,none⟩) Gf _
 have fD:Wd w6 aq A5 n5 c5 ZQ:=by
  exact EA
 have dY:Lim w6 B2 m2 d2 (digits (U%V)):=by
  exact FM
 exact ID
theorem Fk{G:Prop}(h:G:=by
 rw[Z0];have h1:=Nat.div_add_mod U V;have h2:=Nat.mod_lt U bW;rcases Nat.lt_or_ge 1 V with h|h
 ·have:U/V+U/V<=V*(U/V):=by rw[<- Nat.two_mul];exact Nat.mul_le_mul_right _ h
  omega
 omega):G:=h
theorem Zn9(na nb:Bool)(A B:Option Addr)(n c m d:Nat)(za zb:Int)(w:World)(ha:Wd w na A n c za)(hb:Wd w nb B m d zb)(h0:zb≠0)(hy:0<za.natAbs%zb.natAbs)(hs:na≠nb) :
    Calls Tryz.prog 133 #[.agg #[.bool na,.slice A n c],.agg #[.bool nb,.slice B m d]] w (Ziq w za zb):=by
 have aU:=ha.lim;have aD:=hb.lim;have hn:=ha.2.1;have hm:=hb.2.1;have g7:=aD.2.2.1;have i6:=aD.2.1;unfold maxLen at g7;have b5:∀ X Y Z V U:Obj,Below w.heap.size w (((((w.alloc X).alloc Y).alloc Z).alloc V).alloc U):=λX Y Z V U=>(((((Qb w.heap.size w).alloc (Qa _) _).alloc Gh _).alloc Gg _).alloc Gg _).alloc Gg _
 have hW:∀ X Y Z V t,WL (((((w.alloc X).alloc Y).alloc Z).alloc V).alloc (.cells #[.bool na,.slice A n c,.bool nb,.slice B m d] t)) (some ⟨w.heap.size+1+1+1+1,0,none⟩) 2 2 [⟨na,A,n,c,digits za.natAbs⟩,⟨nb,B,m,d,digits zb.natAbs⟩]:=λX Y Z V t=>by
  exact Cz
 have hW:=Zb hW;have b5:=Zb b5;have a5:Hid (okW na (digits za.natAbs)=true/\okW nb (digits zb.natAbs)=true):=⟨ha.ok,hb.ok⟩;have b0:=ha.sgEq;have a6:=hb.sgEq;rw[Zh]at b0 a6;have hU:=ha.small;have hV:=hb.small;clear ha hb;have bW:0<zb.natAbs:=Gk;have i7:0<m:=by rw[<- aD.len];exact length_digits_pos.2 bW
 have i2:((m:Int) == 0)=false:=by simp;omega
 obtain⟨E,J⟩:=Zmp na nb za.natAbs zb.natAbs bW hy hs;rw[b0,a6]at E J;clear b0 a6 h0;generalize za.natAbs=U at *;generalize zb.natAbs=V at *
 have b7:(sg (na != nb) (U/V+1)).natAbs<pw 4096:=by
  exact Fk
 have dN:(sg nb (V-U%V)).natAbs<pw 4096:=by rw[Z0];omega
 rw[<- E]at b7;rw[<- J]at dN;have hfin:Hid (∀ (e:Ending) (w':World),(Below w.heap.size w w'/\∃ nq Aq kq cq nr Ar kr cr,e=.returned (.tuple #[.agg #[.bool nq,.slice Aq kq cq],.agg #[.bool nr,.slice Ar kr cr],.int .i64 0])/\Wd w' nq Aq kq cq (Qd za zb)/\Wd w' nr Ar kr cr (Qe za zb))->Ziq w za zb e w'):=λ_ _ h=>h;generalize Qd za zb=ZQ at *;generalize Qe za zb=ZR at *;replace E:=Zb E;replace J:=Zb J;have I:(na != nb)=true:=by simpa using hs
 have j1:(na == nb)=false:=by simpa using hs
 replace I:=Zb I;go_in;go_wp2_with fail;refine(Zdn (hW.out _ _ _ _ _) (by have:=a5.out;simp[WE.ok,this])).mono ?_;rintro e w1 ⟨rfl,O⟩;obtain⟨a1,h9⟩:=Zdf O;have j0:w.heap.size+1+1+1+1<w1.heap.size:=by have:=O.size;simp at this;omega
 have a2:Below w.heap.size w w1:=(b5.out _ _ _ _ _).trans (O.mono Gg);have g0:w1.cell? ⟨w.heap.size,0,none⟩=some (.bool na):=by simp[a1,go_sem]
 have g1:w1.cell? ⟨w.heap.size,1,none⟩=some (.slice A n c):=by simp[a1,go_sem]
 have g2:w1.cell? ⟨w.heap.size+1,0,none⟩=some (.bool nb):=by simp[a1,go_sem]
 have g3:w1.cell? ⟨w.heap.size+1,1,none⟩=some (.slice B m d):=by simp[a1,go_sem]
 have bq:Hid (Blk w1 (w.heap.size+1+1) 30 #[.bool false,.slice none 0 0]):=by
  refine Zc O (Blk.alloc (Blk.alloc ?_ _) _);exact Ev
 have br:Hid (Blk w1 (w.heap.size+1+1+1) 30 #[.bool false,.slice none 0 0]):=by
  refine Zc O (Blk.alloc ?_ _);exact IF
 have d3:=aU.below a2;have c8:=aD.below a2;clear a1 h9;go_wp2_with fail;refine(Zf0 _ _ _ _ _ _ U V _ d3 c8 Gk bW).mono ?_;rintro e w2 ⟨A2,n2,c2,B2,m2,d2,rfl,d0,a0,C⟩;have a8:Below w.heap.size w w2:=Gs a2 C;have d5:=a0.2.2.1;have i1:=a0.2.1;unfold maxLen at d5;have g9:=Za C g0;have h7:=Za C g1;have h8:=Za C g2;have e7:=Za C g3;have h5:Hid (Blk _ _ _ _):=Zc C bq.out;have f0:Hid (Blk _ _ _ _):=Zc C br.out;have i8:0<m2:=by rw[<- a0.len];exact length_digits_pos.2 hy
 have c9:m2<=m:=by have:=Zw (Ql (Qc U bW));rw[a0.len,aD.len]at this;exact this
 have i0:n2<=n:=by have:=Zw (Qo U V);rw[d0.len,aU.len]at this;exact this
 have b9:∀ t,Lim (w2.alloc (.cells #[limb 1] t)) (some ⟨w2.heap.size,0,none⟩) 1 1 [1]:=λt=>by
  have:=Lim.of_blk (l:=[1]) (Qw w2 t (Zt [1])) (Lt32.cons Gi Lt32.nil) (by simp[maxLen]);exact this
 have f8:=Zb b9;clear b9;go_wp2_with fail;refine(Zp2 _ _ _ _ _ _ _ _ _ (d0.alloc _) (f8.out _) Gk Gk).mono ?_;rintro e w3 ⟨A3,n3,c3,l3,rfl,e2,d4,c0⟩;have f:Below w2.heap.size w2 w3:=((Qb w2.heap.size w2).alloc (Qa _) _).trans (c0.mono Gh);have b6:Below w.heap.size w w3:=Gs a8 f;have a9:=d4.2;replace a9:=Zb a9;clear d4;have h3:=Za f g9;have h6:=Za f h7;have e4:=Za f h8;have h4:=Za f e7;have f4:Hid (Blk _ _ _ _):=Zc f h5.out;have f3:Hid (Blk _ _ _ _):=Zc f f0.out;have d6:=(aD.below a8).below f;have e0:=a0.below f;have a4:val (digits (U%V))<=val (digits V):=by rw[Zh,Zh];exact Ql (Qc U bW)
 go_wp2_with fail;refine(Zi4 _ _ _ _ _ _ _ _ _ d6 e0 c9 a4 Gk).mono ?_;rintro e w4 ⟨A4,n4,c4,l4,rfl,e1,c1,u⟩;have b8:Below w.heap.size w w4:=Gs b6 u;have a7:=c1.2;replace a7:=Zb a7;clear c1 a4;have d8:=e2.below u;have e9:=Za u h3;have e8:=Za u h6;have f7:=Za u e4;have g4:=Za u h4;have e5:Hid (Blk _ _ _ _):=Zc u f4.out;have e6:Hid (Blk _ _ _ _):=Zc u f3.out;go_wp2_with fail;refine(Zcd _ _ _ _ _ _ d8).mono ?_;rintro e w5 ⟨o,aq,A5,n5,c5,f9,rfl,d7⟩;have g8:Below w.heap.size w w5:=Gs b8 o;have i3:=Za o e9;have i4:=Za o e8;have i5:=Za o f7;have i9:=Za o g4;have ay:Hid (Blk _ _ _ _):=Zc o e5.out;have e3:Hid (Blk _ _ _ _):=Zc o e6.out;have f5:val l4=V-U%V:=by have:=a7.out;rw[Zh,Zh]at this;omega
 have a3:=E.out;rw[I.out]at a3;rw[a9.out,Zh,show val [1]=1 from rfl,<- a3]at d7;rcases d7 with ⟨-,rfl,ct⟩|⟨aY,-⟩
 case inr=>exact absurd b7 Gk
 have q1:=ay.out.cell 0;have q2:=ay.out.cell 1;have q3:=ay.out.frozen 0;have q4:=ay.out.frozen 1;simp at q1 q2;go_wp2_with fail;generalize aV:(w5.setCell ⟨w.heap.size+1+1,0,none⟩ (.bool aq)).setCell ⟨w.heap.size+1+1,1,none⟩ (.slice A5 n5 c5)=w6;have g6:Hid (Blk w6 (w.heap.size+1+1) 30 #[.bool aq,.slice A5 n5 c5]):=by rw[<- aV];exact(ay.out.set_ 0 _).set_ 1 _
 have g5:Hid (Blk w6 (w.heap.size+1+1+1) 30 #[.bool false,.slice none 0 0]):=by rw[<- aV];exact(e3.out.far Gf _).far Gf _
 have c6:Below w.heap.size w w6:=by rw[<- aV];exact(g8.setCell (p:=⟨w.heap.size+1+1,0,none⟩) Gf _).setCell (p:=⟨w.heap.size+1+1,1,none⟩) Gf _
 have fD:Wd w6 aq A5 n5 c5 ZQ:=by
  exact EA
 have d9:Lim w6 A4 n4 c4 l4:=by
  rw[<- aV];exact Lim.set_box (Lim.set_box (e1.below o) ay.out (NoLimb.box _ _ _ _) 0 _) (ay.out.set_ 0 _) (NoLimb.box _ _ _ _) 1 _
 clear aV q1 q2 q3 q4 ct;refine(Zcd _ _ _ _ _ _ d9).mono ?_;rintro e w7 ⟨az,bu,A7,n7,c7,f6,rfl,eH⟩;have cP:Below w.heap.size w w7:=Gs c6 az;have fX:Hid (Blk w7 (w.heap.size+1+1) 30 #[.bool aq,.slice A5 n5 c5]):=Zc az g6.out;have cF:Hid (Blk w7 (w.heap.size+1+1+1) 30 #[.bool false,.slice none 0 0]):=Zc az g5.out;rw[f5,<- J.out]at eH;exact Ez
theorem Zfc(na nb:Bool)(A B:Option Addr)(n c m d:Nat)(za zb:Int)(w:World)(ha:Wd w na A n c za)(hb:Wd w nb B m d zb)(h0:zb≠0) :
    Calls Tryz.prog 133 #[.agg #[.bool na,.slice A n c],.agg #[.bool nb,.slice B m d]] w (Ziq w za zb):=by
 rcases Nat.eq_zero_or_pos (za.natAbs%zb.natAbs)with hy|hy;exact Zpu na nb A B n c m d za zb w ha hb h0 hy;by_cases hs:na=nb;exact Zqf na nb A B n c m d za zb w ha hb h0 hy hs;exact Zn9 na nb A B n c m d za zb w ha hb h0 hy hs
theorem EC{G:Prop}(h:G:=by
 go_in
 go_wp2
 go_ret;exact⟨rfl,(Below.refl _ _).alloc (Nat.le_refl _) _⟩):G:=h
theorem Zkt(neg:Bool)(A:Option Addr)(n c:Nat)(l:List Nat)(w:World)(h:Lim w A n c l) :
    Calls Tryz.prog 70 #[.agg #[.bool neg,.slice A n c]] w λe w'=>e=.returned (.int .i64 (Zf8 (okW neg l)))/\Below w.heap.size w w':=by
 have C:=h.2.1;have o:=h.2.2.1;unfold maxLen at o;have HLen:=Zb h.len;by_cases t1:n<=4096
 ·by_cases t2:0<n
  ·obtain⟨b1,o1,rfl,hx⟩:=h.at_ (k:=n-1) Gk
   have E:=Zn hx;have u:((n:Int) == 0)=false:=by simp;omega
   by_cases t3:l[n-1]?.getD 0=0
   ·have f:(((l[n-1]?.getD 0:Nat):Int) == 0)=true:=by simp[t3]
    rw[Zpi (by rw[HLen.out];exact t2) (by rw[HLen.out];exact t3)];clear t3 h;exact EC
   have f:(((l[n-1]?.getD 0:Nat):Int) == 0)=false:=by simpa using t3
   rw[Zvj (by rw[HLen.out];exact t2) (by rw[HLen.out];exact t1) (by rw[HLen.out];exact t3)];clear t3 h;cases neg
   all_goals
    exact EC
  obtain rfl:n=0:=Gk;rw[Znl HLen.out];clear h;cases neg
  all_goals
   exact EC
 rw[Zsd (by rw[HLen.out];omega)];clear h;exact EC
theorem Fl{G:Prop}(h:G:=by
 go_ret;exact OutL.of_append ax (by rw[List.length_take,h.len];omega) (h.lt.take _) ((Below.refl _ _).alloc (Nat.le_refl _) _) bM (λj hj=>by simp[Value.ownBlock]at hj;omega) HD.out.symm):G:=h
theorem Zdx(A:Option Addr)(n c:Nat)(l:List Nat)(w:World)(h:Lim w A n c l)(hn9:n<=1000000000) :
    Calls Tryz.prog 120 #[.slice A n c] w (OutL w λl'=>l'=digits (val l)):=by
 obtain⟨i0,hi,u,C,e⟩:=info_parts Zdc;have hn:=h.2.1;have hm:=h.2.2.1;unfold maxLen at hm;go_in
 go_wp2
 go_loop [3] (λv=>∃ k:Nat,k<=n/\v=.int .i64 k/\Hid (∀ j,k<=j->l[j]?.getD 0=0)) (λv=>(intOf v).toNat)
 case atStart=>exact⟨n,Qa _,rfl,λj hj=>by rw[List.getElem?_eq_none (by rw[h.len];exact hj)];rfl⟩
 case round =>
  obtain⟨k,hk,rfl,hz⟩:=hrel;by_cases hk0:0<k
  ·obtain⟨b,o,rfl,E⟩:=h.at_ (k:=k-1) Gk
   by_cases hx:l[k-1]?.getD 0=0;exact EB;have hb:(((l[k-1]?.getD 0:Nat):Int) == 0)=false:=by simpa using hx
   have HD:=Zb (Zfs hz.out (Or.inr hx) h.lt);clear hx;go_wp2_with (at_builtin;refine Zp _ rfl (.tmp 18) (.tmp 21) 28 rfl w.heap.size 143 i0 _ 1 4 Tryz.underlying28 hi u C e rfl Gk (.slice (some ⟨w.heap.size,0,none⟩) 0 0) 0 [] rfl (Zhh _ _ _) _ _ k c ((l.take k).map limb) rfl (by exact((h.take hk).alloc _).reads) (Zd5 _) (by simp only[maxLen];omega) Gk Gh ?_;intro v1 w1 ax bM f);exact Fl
  obtain rfl:k=0:=Gk;have HD:=Zb (Zfs hz.out (Or.inl rfl) h.lt);go_wp2_with (at_builtin;refine Zp _ rfl (.tmp 18) (.tmp 21) 28 rfl w.heap.size 143 i0 _ 1 4 Tryz.underlying28 hi u C e rfl Gk (.slice (some ⟨w.heap.size,0,none⟩) 0 0) 0 [] rfl (Zhh _ _ _) _ _ 0 c ((l.take 0).map limb) rfl (by exact((h.take hk).alloc _).reads) (Zd5 _) (by simp only[maxLen];omega) Gk Gh ?_;intro v1 w1 ax bM f);exact Fl
theorem Zb8(neg:Bool)(A:Option Addr)(n c:Nat)(l:List Nat)(w:World)(h:Lim w A n c l)(hn9:n<=1000000000) :
    Calls Tryz.prog 90 #[.bool neg,.slice A n c] w (ResW w (sg neg (val l))):=by
 have HI:=Zb (Zo (val l) 4096);have HP:=Zb (@length_digits_pos (val l));go_in;go_wp2_with fail;refine(Zdx _ _ _ _ _ (h.alloc _) hn9).mono ?_;rintro e w1 ⟨A1,n1,c1,l1,rfl,hL,I,C⟩;subst I;have f:=Zb hL.len;have J:=hL.2.1;have E:=hL.2.2.1;unfold maxLen at E;have u:=Qw w 30 #[.bool false,.slice none 0 0];have m7:=Zc C u;have o:Below w.heap.size w w1:=((Qb w.heap.size w).alloc (Qa _) _).trans (C.mono Gh);have m3:=m7.cell 0;have m4:=m7.cell 1;have m5:=m7.frozen 0;have m6:=m7.frozen 1;simp at m3 m4;have HM:=Zb m7;clear m7 u;by_cases h1:n1<=4096
 ·by_cases h2:0<n1
  ·have hd:decide (0<n1)=true:=by simpa using h2
   cases neg
   ·go_wp2_with fail
    refine bodyPost_ret (v:=.tuple #[.agg #[.bool false,.slice A1 n1 c1],.int .i64 0]) (by simp[results,Tryz.results90,go_sem,m3,m4]) rfl ?_;refine ResW.box (.inl ⟨?_,rfl,?_,h1,?_⟩) o (Qa _) HM.out;rw[Z0];exact HI.out.1 (by rw[f.out];exact h1);rw[Zkw];rfl;rw[Z0];exact hL
   go_wp2_with fail;refine bodyPost_ret (v:=.tuple #[.agg #[.bool true,.slice A1 n1 c1],.int .i64 0]) (by simp[results,Tryz.results90,go_sem,m3,m4]) rfl ?_;refine ResW.box (.inl ⟨?_,rfl,?_,h1,?_⟩) o (Qa _) HM.out;rw[Z0];exact HI.out.1 (by rw[f.out];exact h1);rw[Zkw];have:=HP.out.1 (by rw[f.out];exact h2);simp[this];rw[Z0];exact hL
  obtain rfl:n1=0:=Gk;cases neg
  all_goals
   go_wp2_with fail;refine bodyPost_ret (v:=.tuple #[.agg #[.bool false,.slice A1 0 c1],.int .i64 0]) (by simp[results,Tryz.results90,go_sem,m3,m4]) rfl ?_;refine ResW.box (.inl ⟨?_,rfl,?_,h1,?_⟩) o (Qa _) HM.out;rw[Z0];exact HI.out.1 (by rw[f.out];exact h1)
   ·rw[Zkw]
    have:¬ 0<val l:=λhh=>by have:=HP.out.2 hh;rw[f.out]at this;omega
    simp[this]
   rw[Z0];exact hL
 have hp:pw 4096<=val l:=by
   rcases Qg (val l) (pw 4096)with h'|h';have:=HI.out.2 h';rw[f.out]at this;exact absurd this h1;exact h'
 have HPW:=Zb hp;clear hp;go_wp2_with fail;refine bodyPost_ret (v:=.tuple #[.agg #[.bool false,.slice none 0 0],.int .i64 16]) (by simp[results,Tryz.results90,go_sem,m3,m4]) rfl ?_;exact ResW.box (.inr ⟨by rw[Z0];exact HPW.out,rfl,rfl,rfl,rfl,rfl⟩) o (Qa _) HM.out
theorem II{G:Prop}(h:G:=by
 rw[hr];go_in
 go_wp2
 go_ret;exact⟨rfl,Below.refl _ _⟩):G:=h
theorem Ip{G:Prop}(h:G:=by
 go_wp2
 go_quiet (fail)
 go_wp2
 go_ret;exact⟨Zih HR.out.symm,(by first|exact Zg hB _|exact Zg (Zg hB _) _)⟩):G:=h
theorem Zc2(A B:Option Addr)(n c m d:Nat)(a b:List Nat)(w:World)(ha:Lim w A n c a)(hb:Lim w B m d b) :
    Calls Tryz.prog 69 #[.slice A n c,.slice B m d] w λe w'=>e=.returned (.int .i64 (Zch a b))/\Below w.heap.size w w':=by
 have O:=ha.2.1;have Y:=hb.2.1;have u:=ha.2.2.1;have C:=hb.2.2.1;unfold maxLen at u C;by_cases h1:n<m
 ·have f:(((n:Nat):Int) != m)=true:=by simp;omega
  have hd:decide (n<m)=true:=by simpa using h1
  have hr:Zch a b=-1:=by unfold Zch;rw[ha.len,hb.len,Gx h1]
  exact II
 by_cases h2:m<n
 ·have f:(((n:Nat):Int) != m)=true:=by simp;omega
  have hd:decide (n<m)=false:=by simpa using h1
  have hr:Zch a b=1:=by unfold Zch;rw[ha.len,hb.len,Gw h1,Gx h2]
  exact II
 obtain rfl:n=m:=Gk;have f:(((n:Nat):Int) != n)=false:=Gh
 go_in
 go_wp2
 go_loopw [5] (λiv wr=>∃ k:Nat,k<=n/\iv=.int .i64 ((n:Int)-1-k)/\Hid (∀ j,n-k<=j->j<n->a[j]?.getD 0=b[j]?.getD 0)/\Below w.heap.size w wr) (λiv _=>(intOf iv+1).toNat)
 case atStart=>exact⟨0,Qf _,by go_num,λj h h'=>by omega,Qb _ _⟩
 case round =>
  obtain⟨k,hk,rfl,he,hB⟩:=hrel;by_cases hlt:k<n
  ·obtain⟨ba,oa,rfl,J⟩:=(ha.below hB).at_ (k:=n-1-k) Gk
   obtain⟨bb,ob,rfl,I⟩:=(hb.below hB).at_ (k:=n-1-k) Gk;have U:=Zb ha.len;have a0:=Zb hb.len;by_cases t1:a[n-1-k]?.getD 0<b[n-1-k]?.getD 0
   ·have E:decide (a[n-1-k]?.getD 0<b[n-1-k]?.getD 0)=true:=by simpa using t1
    have HR:Hid (Zch a b=-1):=by
     have:=Zj6 ha.len hb.len ha.lt Gk (λj h h'=>he.out j Gk h') t1;unfold Hid Zch;rw[ha.len,hb.len];simp[this]
    exact Ip
   have E:decide (a[n-1-k]?.getD 0<b[n-1-k]?.getD 0)=false:=by simpa using t1
   by_cases t2:b[n-1-k]?.getD 0<a[n-1-k]?.getD 0
   ·have o:decide (b[n-1-k]?.getD 0<a[n-1-k]?.getD 0)=true:=by simpa using t2
    have HR:Hid (Zch a b=1):=by
     have:=Zj6 hb.len ha.len hb.lt Gk (λj h h'=>(he.out j Gk h').symm) t2;unfold Hid Zch;rw[ha.len,hb.len];simp[this];omega
    go_wp2
    go_quiet (fail)
    exact Ip
   have o:decide (b[n-1-k]?.getD 0<a[n-1-k]?.getD 0)=false:=by simpa using t2
   have HE:Hid (∀ j,n-(k+1)<=j->j<n->a[j]?.getD 0=b[j]?.getD 0):=λj h h'=>by
    rcases Qg j (n-k)with h3|h3
    ·obtain rfl:j=n-1-k:=Gk
     omega
    exact he.out j h3 h'
   go_wp2
   go_quiet (fail)
   go_wp2
   go_quiet (fail)
   go_wp2
   go_roundw
   case rel=>exact⟨k+1,by omega,by go_num,HE,(by first|exact Zg hB _|exact Zg (Zg hB _) _)⟩
   case measure=>simp[intOf];omega
  obtain rfl:k=n:=Gk
  have HR:Hid (Zch a b=0):=by
   have:=Zv3 ha.len hb.len (λj hj=>he.out j Gk hj);unfold Hid;rw[this,Zmr]
  go_wp2
  go_ret;exact⟨Zih HR.out.symm,hB⟩
def Zfg(na nb:Bool)(a b:List Nat):Bool:=(na == nb) && (Zch a b == 0)
theorem Zel(na nb:Bool)(A B:Option Addr)(n c m d:Nat)(a b:List Nat)(w:World)(ha:Lim w A n c a)(hb:Lim w B m d b) :
    Calls Tryz.prog 46 #[.agg #[.bool na,.slice A n c],.agg #[.bool nb,.slice B m d]] w λe w'=>e=.returned (.bool (Zfg na nb a b))/\Below w.heap.size w w':=by
 by_cases h:na=nb
 ·subst h
  have hs:Zfg na na a b=(Zch a b == 0):=by simp[Zfg]
  rw[hs];generalize hx:Zch a b=x at *;have HX:=Zb hx;clear hx hs;go_in;go_wp2_with (go_at_call 69;refine(Zc2 _ _ _ _ _ _ _ _ _ ((ha.alloc _).alloc _) ((hb.alloc _).alloc _)).mono ?_;rintro e w1 ⟨he,o⟩;rw[HX.out]at he;subst he);go_ret;exact⟨rfl,(((Qb w.heap.size w).alloc (Qa _) _).alloc Gh _).trans (o.mono Gg)⟩
 have f:(na == nb)=false:=by simpa using h
 have hs:Zfg na nb a b=false:=by simp[Zfg,f]
 rw[hs];clear hs;go_in
 go_wp2
 go_ret;exact⟨rfl,((Qb w.heap.size w).alloc (Qa _) _).alloc Gh _⟩
def RPlus(w:World)(a b:List Nat)(k carry:Nat)(v:Value)(wr:World):Prop:=
 ∃ l,OwnL 143 wr w.heap.size v l/\l.length=k/\carry<=1/\val l+pw k*carry=val (a.take k)+val (b.take k)/\Below w.heap.size w wr
theorem RPlus.step{w w1 wb:World}{a b l:List Nat}{k carry:Nat}{v':Value}{X:Int}{row:Option Nat}(hlen:l.length=k)(hlt:Lt32 l)(hc:carry<=1)
    (hI:val l+pw k*carry=val (a.take k)+val (b.take k)) (hB:Below w.heap.size w wb) (hown:w1.ownsRow w.heap.size 143 1 v' (k+1) (l.map limb ++ [.int .u32 X]))
    (hg:wb.grownBy w1 row) (hr:∀ j,row=some j->w.heap.size<=j) (ha:a[k]?.getD 0<4294967296) (hb:b[k]?.getD 0<4294967296)
    (hX:X=((carry+a[k]?.getD 0+b[k]?.getD 0)%4294967296:Nat)):RPlus w a b (k+1) ((carry+a[k]?.getD 0+b[k]?.getD 0)/4294967296) v' w1:=by
 refine⟨l ++ [(carry+a[k]?.getD 0+b[k]?.getD 0)%4294967296],OwnL.snoc hlen.symm hown hlt hX (Qc _ Gi),by simp[hlen],by omega,?_,hB.grown hg hB.size hr⟩;rw[Zeb,hlen,Z3,Z3,Zbh];have e:(carry+a[k]?.getD 0+b[k]?.getD 0)%4294967296+4294967296*((carry+a[k]?.getD 0+b[k]?.getD 0)/4294967296)=carry+a[k]?.getD 0+b[k]?.getD 0:=Nat.mod_add_div _ _;generalize (carry+a[k]?.getD 0+b[k]?.getD 0)%4294967296=s at *;generalize (carry+a[k]?.getD 0+b[k]?.getD 0)/4294967296=q at *;have:pw k*(s+4294967296*q)=pw k*(carry+a[k]?.getD 0+b[k]?.getD 0):=by rw[e]
 grind
theorem RPlus.stop{w w1 wb:World}{a b l:List Nat}{k carry:Nat}{v':Value}{row:Option Nat}(hlen:l.length=k)(hlt:Lt32 l)(hc:carry<=1)
    (hI:val l+pw k*carry=val (a.take k)+val (b.take k)) (hB:Below w.heap.size w wb) (hown:w1.ownsRow w.heap.size 143 1 v' (k+1) (l.map limb ++ [.int .u32 carry]))
    (hg:wb.grownBy w1 row) (hr:∀ j,row=some j->w.heap.size<=j) (ha:a.length<=k) (hb:b.length<=k):OutL w (λl=>l.length=k+1/\val l=val a+val b) (.returned v') w1:=by
 refine OutL.of_own (OwnL.snoc hlen.symm hown hlt rfl Gk) (hB.grown hg hB.size hr) ⟨by simp[hlen],?_⟩;rw[Zeb,hlen,hI,Z8 ha,Z8 hb]
theorem Zus(A B:Option Addr)(n c m d:Nat)(a b:List Nat)(w:World)(ha:Lim w A n c a)(hb:Lim w B m d b)(hn9:n<=1000000000)(hm9:m<=1000000000) :
    Calls Tryz.prog 164 #[.slice A n c,.slice B m d] w (OutL w λl=>l.length=max n m+1/\val l=val a+val b):=by
 obtain⟨i0,hi,u,E,I⟩:=info_parts Zdc;have a8:=ha.2.1;have b1:=hb.2.1;have a2:=ha.2.2.1;have a3:=hb.2.2.1;unfold maxLen at a2 a3;have Y:=Zb ha.len;have a0:=Zb hb.len;obtain⟨N,hN,a9,b2,a6⟩:∃ N,N=max n m/\n<=N/\m<=N/\N<=1000000000:=⟨_,rfl,by omega,by omega,by omega⟩;rw[<- hN];have HN:=Zb hN;clear hN;go_in
 go_wp2
 go_loopw [5,6,7] (λov cv iv wr=>∃ k carry:Nat,k<=N/\cv=.int .u64 carry/\iv=.int .i64 k/\RPlus w a b k carry ov wr) (λ_ _ iv _=>N-(intOf iv).toNat)
 case atStart=>exact⟨0,0,Qf _,rfl,rfl,[],OwnL.nil _ _ _,rfl,by omega,by simp[val],Qb _ _⟩
 case round =>
  obtain⟨k,carry,hk,rfl,rfl,l,e,J,C,hI,hB⟩:=hrel;have HLen:=Zb J;have HI:=Zb hI;clear J hI;have b0:=ha.lt.get k;have a7:=hb.lt.get k;by_cases h1:k<n
  ·obtain⟨ba,oa,rfl,a5⟩:=(ha.below hB).at_ h1
   by_cases h2:k<m
   ·obtain⟨bb,ob,rfl,a1⟩:=(hb.below hB).at_ h2
    go_wp2_with (at_builtin;refine Zp _ rfl (.tmp 42) (.tmp 45) 28 rfl w.heap.size 143 i0 _ 1 4 Tryz.underlying28 hi u E I rfl Gk _ k (l.map limb) rfl (by have:=HLen.out;subst this;exact e.1.alloc _) _ _ 1 1 _ rfl (Zbo _ _ _) (by simp[Value.oneCell']) (by simp only[maxLen];omega) Gk Ge ?_;intro v1 w1 f h o)
    go_roundw
    case rel=>exact⟨k+1,_,by omega,by rw[show ((carry:Int)+((a[k]?.getD 0:Nat):Int)+((b[k]?.getD 0:Nat):Int))/4294967296=(((carry+a[k]?.getD 0+b[k]?.getD 0)/4294967296:Nat):Int) by omega],by go_num,RPlus.step HLen.out e.2 C HI.out (hB.alloc hB.size _) f h e.row_ge (ha.lt.get k) (hb.lt.get k) Gk⟩
    case measure=>simp[intOf];omega
   have O:=Zb (getD_none (l:=b) (i:=k) (by rw[a0.out];omega));go_wp2_with (at_builtin;refine Zp _ rfl (.tmp 42) (.tmp 45) 28 rfl w.heap.size 143 i0 _ 1 4 Tryz.underlying28 hi u E I rfl Gk _ k (l.map limb) rfl (by have:=HLen.out;subst this;exact e.1.alloc _) _ _ 1 1 _ rfl (Zbo _ _ _) (by simp[Value.oneCell']) (by simp only[maxLen];omega) Gk Ge ?_;intro v1 w1 f h o)
   go_roundw
   case rel=>exact⟨k+1,_,by omega,by rw[O.out];rw[show ((carry:Int)+((a[k]?.getD 0:Nat):Int))/4294967296=(((carry+a[k]?.getD 0+0)/4294967296:Nat):Int) by omega],by go_num,RPlus.step HLen.out e.2 C HI.out (hB.alloc hB.size _) f h e.row_ge (ha.lt.get k) (hb.lt.get k) (by rw[O.out];omega)⟩
   case measure=>simp[intOf];omega
  have U:=Zb (getD_none (l:=a) (i:=k) (by rw[Y.out];omega));by_cases h2:k<m
  ·obtain⟨bb,ob,rfl,a1⟩:=(hb.below hB).at_ h2
   go_wp2_with (at_builtin;refine Zp _ rfl (.tmp 42) (.tmp 45) 28 rfl w.heap.size 143 i0 _ 1 4 Tryz.underlying28 hi u E I rfl Gk _ k (l.map limb) rfl (by have:=HLen.out;subst this;exact e.1.alloc _) _ _ 1 1 _ rfl (Zbo _ _ _) (by simp[Value.oneCell']) (by simp only[maxLen];omega) Gk Ge ?_;intro v1 w1 f h o)
   go_roundw
   case rel=>exact⟨k+1,_,by omega,by rw[U.out];rw[show ((carry:Int)+((b[k]?.getD 0:Nat):Int))/4294967296=(((carry+0+b[k]?.getD 0)/4294967296:Nat):Int) by omega],by go_num,RPlus.step HLen.out e.2 C HI.out (hB.alloc hB.size _) f h e.row_ge (ha.lt.get k) (hb.lt.get k) (by rw[U.out];omega)⟩
   case measure=>simp[intOf];omega
  have a4:=Zb (show k=N by have:=HN.out;omega);go_wp2_with (at_builtin;refine Zp _ rfl (.tmp 49) (.tmp 52) 28 rfl w.heap.size 143 i0 _ 1 4 Tryz.underlying28 hi u E I rfl Gk _ k (l.map limb) rfl (by have:=HLen.out;subst this;exact e.1.alloc _) _ _ 1 1 _ rfl (Zbo _ _ _) (by simp[Value.oneCell']) (by simp only[maxLen];omega) Gk Ge ?_;intro v1 w1 f h o);go_ret;rw[<- a4.out];exact RPlus.stop HLen.out e.2 C HI.out (hB.alloc hB.size _) f h e.row_ge (by rw[Y.out];omega) (by rw[a0.out];omega)
