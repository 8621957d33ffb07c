/- Package wide: made, times, and what is built on them. -/
import Derived.Deep.RegionHeld3
import Derived.Deep.DeepFit
import Derived.BigQuiet
import Derived.Deep.QuietTactic
import Derived.Test.YthappeninglakaaGreatZa03
set_option maxRecDepth 100000
set_option maxHeartbeats 2000000
set_option linter.unusedSimpArgs false
set_option linter.unusedVariables false
namespace Go.Proofs.YthappeninglakaaGreat
open Go.RowKit
open Nat renaming le_refl→Qa,mod_lt→Qc,zero_le→Qf,lt_or_ge→Qg,mul_le_mul_right→Qh,le_trans→Qk,le_of_lt→Ql,div_le_self→Qo,lt_trans→Qq,lt_of_le_of_lt→Qr,pow_pos→Qs,div_eq_of_lt→Qt,mod_eq_of_lt→Qu,div_add_mod→Qv
open Below renaming refl→Qb
open Int renaming fdiv→Qd,fmod→Qe
open World renaming cell?_setCell_other→Qi
open List renaming length_take→Qj,length_set→Qm,replicate→Qp
open And renaming intro→Qn
attribute [local go_sem] Zi
theorem Z0q{w w':World}{A:Option Addr}{n c:Nat}{l:List Nat}{neg:Bool}(h:Lim w A n c l)(hb:Below w.heap.size w w')(hs:val l<pw 4096) :
    ResW w (sg neg (val l)) (.returned (.tuple #[.agg #[.bool (neg && decide (0<(digits (val l)).length)),.slice A (digits (val l)).length c],.int .i64 0])) w':=
 ⟨hb,_,_,_,_,_,rfl,.inl ⟨by rw[Zaa];exact hs,rfl,(Wd.made h neg hs).below hb⟩⟩
theorem Fc{G:Prop}(h:G:=by
 cases neg
 all_goals
  go_in;go_wp2_with (go_at_call 185;refine(HT.out _ (h.alloc _)).mono ?_;rintro e w' ⟨rfl,rfl⟩);go_returns;exact HO.out _ ((Below.refl _ _).alloc (Nat.le_refl _) _) (HI.out.1 h1)):G:=h
theorem Zcb(neg:Bool)(A:Option Addr)(n c:Nat)(l:List Nat)(w:World)(h:Lim w A n c l) :
    Calls Tryz.prog 158 #[.bool neg,.slice A n c] w (ResW w (sg neg (val l))):=by
 have hk:=h.canon.2;have o:=h.2.1;have f:=h.2.2.1;unfold maxLen at f
 have HO:Hid (∀ w',Below w.heap.size w w'->val l<pw 4096->ResW w (sg neg (val l)) (.returned (.tuple #[.agg #[.bool (neg && decide (0<(digits (val l)).length)),.slice A (digits (val l)).length c],.int .i64 0])) w'):=
  λw' hb hs=>Z0q h hb hs
 have HB:Hid (∀ w',Below w.heap.size w w'->pw 4096<=val l->ResW w (sg neg (val l)) (.returned (.tuple #[.agg #[.bool false,.slice none 0 0],.int .i64 16])) w'):=
  λw' hb hs=>⟨hb,_,_,_,_,_,rfl,.inr ⟨by rw[Zaa];exact hs,rfl,rfl,rfl,rfl,rfl⟩⟩
 have HI:=Zd (Zs (val l) 4096);have HT:=Zd (Zge A n c l);generalize hm:(digits (val l)).length=m at *;clear hm;by_cases h1:m<=4096
 ·by_cases h2:0<m
  ·have e:(neg && decide (0<m))=neg:=by simp[h2]
   simp only[e]at HO;clear e;have hd:decide (0<m)=true:=by simpa using h2
   exact Fc
  obtain rfl:m=0:=Gk;have e:(neg && decide (0<0))=false:=Gh;simp only[e]at HO;clear e;exact Fc
 have hp:pw 4096<=val l:=by
   rcases Qg (val l) (pw 4096)with h'|h';exact absurd (HI.out.2 h') h1;exact h'
 have HP:=Zd hp;clear hp;go_in;go_wp2_with (go_at_call 185;refine(HT.out _ (h.alloc _)).mono ?_;rintro e w' ⟨rfl,rfl⟩);go_returns;exact HB.out _ ((Qb _ _).alloc (Qa _) _) HP.out
def Times1(w:World)(a b:List Nat)(g i k carry:Nat)(wr:World):Prop:=
 ∃ out,Blk wr g 106 (Z4 out)/\out.length=a.length+b.length/\Lt32 out/\(∀ j,i+b.length<=j->out[j]?.getD 0=0) /\
  val out+pw (i+k)*carry=val (a.take i)*val b+pw i*(a[i]?.getD 0*val (b.take k))/\carry<4294967296/\Below w.heap.size w wr
theorem Times1.start(w:World)(a b:List Nat):Times1 w a b w.heap.size 0 0 0 (w.alloc (.cells (Z4 (Qp (a.length+b.length) 0)) 106)):=
 ⟨Qp _ 0,Blk.new _ _ _,by simp,Lt32.replicate _,λj _=>Zd9 _ _,by simp[Zeo,val],by omega,(Qb _ _).alloc (Qa _) _⟩
theorem Times1.step{w wr:World}{a b out:List Nat}{i k carry s q:Nat}(hblk:Blk wr w.heap.size 106 (Z4 out))(hlen:out.length=a.length+b.length)(hlt:Lt32 out)(hz:∀ j,i+b.length<=j->out[j]?.getD 0=0)
    (hI:val out+pw (i+k)*carry=val (a.take i)*val b+pw i*(a[i]?.getD 0*val (b.take k))) (hc:carry<4294967296) (hB:Below w.heap.size w wr) (hi:i<a.length) (hk:k<b.length)
    (ha:Lt32 a) (hb:Lt32 b) (hs:s<4294967296) (he:s+4294967296*q=carry+a[i]?.getD 0*b[k]?.getD 0+out[i+k]?.getD 0) :
    Times1 w a b w.heap.size i (k+1) q (wr.setCell ⟨w.heap.size,i+k,none⟩ (limb s)):=
 ⟨out.set (i+k) s,by rw[<- Zb6];exact hblk.set_ _ _,by rw[Qm];exact hlen,hlt.set _ hs,λj hj=>by rw[getD_set_ne _ Gk];exact hz j Gk,
  Zvg Gk hI he,Z1m (ha.get i) (hb.get k) (hlt.get _) hc he,hB.setCell (p:=⟨w.heap.size,i+k,none⟩) (Qa _) _⟩
theorem Times1.row{w wr:World}{a b:List Nat}{i carry:Nat}(h:Times1 w a b w.heap.size i b.length carry wr)(hi:i<a.length) :
    Times1 w a b w.heap.size (i+1) 0 0 (wr.setCell ⟨w.heap.size,i+b.length,none⟩ (limb carry)):=by
 obtain⟨out,e,f,o,hz,hI,hc,hB⟩:=h;rw[List.take_length]at hI;refine⟨out.set (i+b.length) carry,by rw[<- Zb6];exact e.set_ _ _,by rw[Qm];exact f,o.set _ hc,λj hj=>by rw[getD_set_ne _ Gk];exact hz j Gk,?_,by omega,hB.setCell (p:=⟨w.heap.size,i+b.length,none⟩) (Qa _) _⟩;have:=Zys Gk (hz _ (Qa _)) hI;simp[val,this]
theorem Times1.stop{w wr:World}{a b:List Nat}{carry:Nat}(h:Times1 w a b w.heap.size a.length 0 carry wr)(hn:a.length+b.length<=maxLen)(h0:carry=0) :
    OutL w (λl=>l.length=a.length+b.length/\val l=val a*val b) (.returned (.slice (some ⟨w.heap.size,0,none⟩) (a.length+b.length) (a.length+b.length))) wr:=by
 obtain⟨out,f,e,o,-,hI,-,hB⟩:=h;have hL:=Lim.of_blk f o Gk;rw[e]at hL;refine⟨_,_,_,_,rfl,hL,⟨e,?_⟩,hB⟩;subst h0;simpa [val]using hI
theorem Fq{G:Prop}(h:G:=by
 obtain rfl:i=n:=Gk
 have HF:Hid (OutL w (λl=>l.length=i+m/\val l=val a*val b) (.returned (.slice (some ⟨w.heap.size,0,none⟩) (i+m) (i+m))) wr):=by
  rw[<- cY.out];have h1:=bU.out;subst h1;exact Times1.stop hP (by rw[cY.out];unfold maxLen;omega) rfl
 clear hP
 go_wp2
 go_ret;exact HF.out):G:=h
theorem EP{G:Prop}(h:G:=by
 obtain rfl:k=m:=Gk
 have HR:Hid (Times1 w a b w.heap.size (i+1) 0 0 (wr.setCell ⟨w.heap.size,i+k,none⟩ (limb carry))):=by
  rw[<- cY.out]at hP ⊢;exact hP.row (by rw[bU.out];exact hlt1)
 obtain⟨out,ap,au,bF,hz,hI,cM,hB⟩:=hP;have fv:=ap.lt;have cZ:=ap.cell (i+k);rw[Zaw out (i+k) (by rw[au,bU.out,cY.out];omega)]at cZ;have fe:=ap.frozen (i+k);clear hz hI au ap
 go_wp2
 go_roundw
 case rel=>exact⟨i+1,by omega,by go_num,HR.out⟩
 case measure=>simp[intOf];omega):G:=h
theorem Zx2(A B:Option Addr)(n c m d:Nat)(a b:List Nat)(w:World)(ha:Lim w A n c a)(hb:Lim w B m d b)(hn:n<=1000000000)(hm:m<=1000000000) :
    Calls Tryz.prog 178 #[.slice A n c,.slice B m d] w (OutL w λl=>l.length=n+m/\val l=val a*val b):=by
 obtain⟨i0,hi,f,o,u⟩:=info_parts Zdn;have Y:=Zgs (P:=Tryz.prog) 37 106 Tryz.underlying37 hi f o u ((n:Int)+m) (n+m) Gk Gk;have V:=ha.2.1;have a0:=hb.2.1;have e:=ha.2.2.1;have h:=hb.2.2.1;unfold maxLen at e h;have bU:=Zd ha.len;have cY:=Zd hb.len;go_in
 go_wp2
 go_loopw [19] (λiv wr=>∃ i:Nat,i<=n/\iv=.int .i64 i/\Times1 w a b w.heap.size i 0 0 wr) (λiv _=>n-(intOf iv).toNat)
 case atStart=>exact⟨0,Qf _,rfl,by have:=Times1.start w a b;rw[ha.len,hb.len]at this;exact this⟩
 case round =>
  obtain⟨i,O,rfl,hP⟩:=hrel;by_cases hlt1:i<n
  ·have C:Below w.heap.size w wr:=by obtain⟨out,h1,h2,h3,h4,h5,h6,h7⟩:=hP;exact h7
   obtain⟨ba,oa,rfl,U⟩:=(ha.below C).at_ hlt1;have I:=ha.lt.get i;obtain⟨wo,rfl⟩:=Gy wr
   go_wp2
   go_loopw [8,26] (λcv kv wr=>∃ k carry:Nat,k<=m/\cv=.int .u64 carry/\kv=.int .i64 k/\Times1 w a b w.heap.size i k carry wr) (λ_ kv _=>m-(intOf kv).toNat)
   case atStart=>exact⟨0,0,Qf _,rfl,rfl,hP⟩
   case round =>
    obtain⟨k,carry,hk,rfl,rfl,hP⟩:=hrel;by_cases hlt2:k<m
    ·obtain⟨out,ap,au,bF,hz,hI,cM,hB⟩:=hP
     have hz:=Zd hz;have hI:=Zd hI;have au:=Zd au;have fv:=ap.lt;obtain⟨bb,ob,rfl,T⟩:=(hb.below hB).at_ hlt2;have y:=hb.lt.get k;have cZ:=ap.cell (i+k);rw[Zaw out (i+k) (by rw[au.out,bU.out,cY.out];omega)]at cZ;have J:=bF.get (i+k);have fe:=ap.frozen (i+k)
     go_wp2
     go_roundw
     case rel =>
      rw[Zwx cM I y J,Zn3,Zmx];exact⟨k+1,_,by omega,rfl,by go_num,Times1.step ap au.out bF hz.out hI.out cM hB (by rw[bU.out];exact hlt1) (by rw[cY.out];exact hlt2) ha.lt hb.lt (Qc _ Gj) Gk⟩
     case measure=>simp[intOf];omega
    exact EP
  exact Fq
def Zfq(b:Bool):Int:=if b then 0 else 8
theorem IE{G:Prop}(h:G:=by
 go_wp2
 go_ret;exact⟨H8.out,hB.alloc hB.size _⟩):G:=h
theorem IY{G:Prop}(h:G:=by
 go_wp2
 go_roundw
 case rel=>exact⟨k+1,by omega,by go_num,HG,hB.alloc hB.size _⟩
 case measure=>simp[intOf];omega):G:=h
theorem Zk0(A:Option Addr)(n c:Nat)(es:List WE)(w:World)(h:WL w A n c es) :
    Calls Tryz.prog 163 #[.slice A n c] w λe w'=>e=.returned (.int .i64 (Zfq (es.all WE.ok)))/\Below w.heap.size w w':=by
 have V:=h.2.1;have I:=h.2.2.1;unfold maxLen at I;go_in
 go_wp2
 go_loopw [8] (λv wr=>∃ k:Nat,k<=n/\v=.int .i64 k/\Hid (∀ e ∈ es.take k,e.ok=true)/\Below w.heap.size w wr) (λv _=>n-(intOf v).toNat)
 case atStart=>exact⟨0,Qf _,rfl,by unfold Hid;simp,Qb _ _⟩
 case round =>
  obtain⟨k,hk,rfl,ho,hB⟩:=hrel;by_cases hk0:k<n
  ·obtain⟨b,o,e,rfl,he,T,J,hL⟩:=(h.below hB).at_ hk0
   have O:=hL.2.1;have y:=hL.2.2.1;unfold maxLen at y;have HE:=Zd he;have HLen:=Zd hL.len
   have f:Hid (e.ok=true->∀ x ∈ es.take (k+1),x.ok=true):=λhok x hx=>by
    rw[List.take_add_one,HE.out]at hx;rcases List.mem_append.1 hx with hx|hx;exact ho.out x hx;simp at hx;subst hx;exact hok
   have u:Hid (e.ok=false->Ending.returned (.int .i64 8)=.returned (.int .i64 (Zfq (es.all WE.ok)))):=λhok=>by
    have:es.all WE.ok=false:=by
     rw[List.all_eq_false];exact⟨e,List.mem_of_getElem? HE.out,by simp[hok]⟩
    rw[this];rfl
   obtain⟨neg,A1,n1,c1,l1⟩:=e;dsimp only at T J hL O y HLen;clear he;by_cases t1:n1<=4096
   ·by_cases t2:0<n1
    ·obtain⟨b1,o1,rfl,hx⟩:=hL.at_ (k:=n1-1) Gk
     have Y:=Zp hx;by_cases t3:l1[n1-1]?.getD 0=0
     ·have C:(((l1[n1-1]?.getD 0:Nat):Int) == 0)=true:=by simp[t3]
      have H8:=Zd (u.out (Zse (by rw[HLen.out];exact t2) (by rw[HLen.out];exact t3)));clear t3 hL;exact IE
     have C:(((l1[n1-1]?.getD 0:Nat):Int) == 0)=false:=by simpa using t3
     have HG:=Zd (f.out (Z0f (by rw[HLen.out];exact t2) (by rw[HLen.out];exact t1) (by rw[HLen.out];exact t3)));have U:((n1:Int) == 0)=false:=by simp;omega
     clear t3 hL;cases neg
     all_goals
      exact IY
    obtain rfl:n1=0:=Gk;cases neg
    ·have HG:=Zd (f.out (by unfold WE.ok;rw[Zpz HLen.out];rfl))
     clear hL;exact IY
    have H8:=Zd (u.out (by unfold WE.ok;rw[Zpz HLen.out];rfl));clear hL;exact IE
   have H8:=Zd (u.out (Zwc (by rw[HLen.out];omega)));clear hL;exact IE
  obtain rfl:k=n:=Gk
  have HA:Hid (es.all WE.ok=true):=by
   unfold Hid;rw[List.all_eq_true];have:=ho.out;rw[List.take_of_length_le (by rw[h.len];exact Qa _)]at this;exact this
  go_wp2
  go_ret;exact⟨by rw[HA.out];rfl,hB⟩
theorem Zdo{A:Option Addr}{n c:Nat}{es:List WE}{w:World}(h:WL w A n c es)(hk:es.all WE.ok=true) :
    Calls Tryz.prog 163 #[.slice A n c] w λe w'=>e=.returned (.int .i64 0)/\Below w.heap.size w w':=
 (Zk0 A n c es w h).mono λ_ _ ⟨he,hb⟩=>⟨by rw[he,hk];rfl,hb⟩
theorem Zye{A:Option Addr}{n c:Nat}{es:List WE}{w:World}(h:WL w A n c es)(hk:es.all WE.ok=false) :
    Calls Tryz.prog 163 #[.slice A n c] w λe w'=>e=.returned (.int .i64 8)/\Below w.heap.size w w':=
 (Zk0 A n c es w h).mono λ_ _ ⟨he,hb⟩=>⟨by rw[he,hk];rfl,hb⟩
theorem Zpp(neg:Bool)(A:Option Addr)(n c:Nat)(l:List Nat)(w:World)(h:Lim w A n c l) :
    Calls Tryz.prog 156 #[.agg #[.bool neg,.slice A n c]] w λe w'=>e=.returned (.int .i64 (Zfq (okW neg l)))/\Below w.heap.size w w':=by
 have hW:∀ X t,WL ((w.alloc X).alloc (.cells #[.bool neg,.slice A n c] t)) (some ⟨w.heap.size+1,0,none⟩) 1 1 [⟨neg,A,n,c,l⟩]:=λX t=>by
  have:=WL.one (neg:=neg) (h.alloc X) t;rw[World.size_alloc]at this;exact this
 have hW:=Zd hW;go_in;go_wp2_with (go_at_call 163;refine(Zk0 _ _ _ _ _ (hW.out _ _)).mono ?_;rintro e w1 ⟨rfl,hb⟩);go_ret;exact⟨by simp[WE.ok],((Qb _ _).alloc (Qa _) _).alloc Gh _ |>.trans (hb.mono Gg)⟩
theorem Zhu{va vb:Nat}:(0<=Zcm (digits va) (digits vb)) ↔ vb<=va:=by
 unfold Zcm;rw[Zk,Zk]
 split
 ·rename_i h
  have:=(Zs va ((digits vb).length-1)).1 Gk;have h2:=Zhc (n:=vb) (k:=(digits vb).length-1) Gk;constructor <;> intro <;> omega
 split
 ·rename_i h
  have:=(Zs vb ((digits va).length-1)).1 Gk;have h2:=Zhc (n:=va) (k:=(digits va).length-1) Gk;constructor <;> intro <;> omega
 split
 ·constructor <;> intro <;> omega
 split <;> constructor <;> intro <;> omega
theorem Zln(s:Bool)(a b:Nat):sg s (a+b)=sg s a+sg s b:=by unfold sg;split <;> omega
theorem Zfk{s t:Bool}(h:s≠t){a b d:Nat}(hd:d+b=a):sg s d=sg s a+sg t b:=by
 cases s <;> cases t <;> simp_all [sg] <;> omega
theorem Zv{B:Nat}{w w':World}(h:Below B w.drew w'):Below B w w':=⟨h.os,h.tape,h.output,h.size,h.block⟩
theorem Ct{G:Prop}(h:G:=by
 rcases Nat.lt_or_ge vb va with h|h;exact absurd (dz.out.2 (Nat.le_of_lt h)) eZ;exact h):G:=h
theorem Ea{G:Prop}(h:G:=by
 have cn:Below w.heap.size w w3:=(ae.trans ((Zv aa).mono ae.size)).trans (ah.mono (Nat.le_trans ae.size (Zv aa).size))
 go_wp2
 refine bodyPost_ret (v:=.tuple #[.agg #[.bool aD,.slice A3 n3 c3],.int .i64 aL]) (by simp[results,Tryz.results164,go_sem,m3,m4]) rfl ?_;exact ResW.box (HZ l2 cA.2▸bY) cn Gk m7):G:=h
theorem Et{G:Prop}(h:G:=by
 simp only[World.size_alloc]at this;exact this):G:=h
theorem Ev{G:Prop}(h:G:=by
 have:=Blk.new ((w.alloc (.cells #[.bool na,.slice A n c] 39)).alloc (.cells #[.bool nb,.slice B m d] 39)) 39 #[.bool false,.slice none 0 0];simp only[World.size_alloc]at this;exact this):G:=h
theorem Cg{G:Prop}(h:G:=by
 have:=Blk.new ((w.alloc (.cells #[.bool na,.slice A n c] 39)).alloc (.cells #[.bool na,.slice B m d] 39)) 39 #[.bool false,.slice none 0 0];exact Et):G:=h
theorem Zwu(na nb:Bool)(A B:Option Addr)(n c m d:Nat)(va vb:Nat)(w:World)(ha:Lim w A n c (digits va))(hb:Lim w B m d (digits vb))(hn:n<=4096)(hm:m<=4096) :
    Calls Tryz.prog 164 #[.agg #[.bool na,.slice A n c],.agg #[.bool nb,.slice B m d]] w (ResW w (sg na va+sg nb vb)):=by
 obtain⟨cv,J⟩:∃ x:Int,Zcm (digits va) (digits vb)=x:=⟨_,rfl⟩;have HC:=Zd J;have dz:0<=cv ↔ vb<=va:=by rw[<- J];exact Zhu
 have dz:=Zd dz;by_cases hs:na=nb
 ·subst hs
  clear J;have HZ:∀ l:List Nat,val l=val (digits va)+val (digits vb)->sg na (val l)=sg na va+sg na vb:=λl h=>by rw[h,Zk,Zk,Zln]
  go_in;go_wp2_with (go_at_call 186;refine(Zct _ _ _ _ _ _ _ _ _ (((ha.alloc _).alloc _).alloc _) (((hb.alloc _).alloc _).alloc _)).mono ?_;rintro e w1 ⟨y,f⟩;rw[HC.out]at y;subst y;obtain⟨o,U⟩:=Zc1 f;have T:w.heap.size+1+1<w1.heap.size:=by(have:=f.size;simp at this;omega));have ae:Below w.heap.size w w1:=(((((Qb w.heap.size w).alloc (Qa _) _).alloc Gh _).alloc Gg _).trans (f.mono Gg));have I:=ha.below ae;have u:=hb.below ae;have g0:w1.cell? ⟨w.heap.size,0,none⟩=some (.bool na):=by simp[o,go_sem]
  have g1:w1.cell? ⟨w.heap.size,1,none⟩=some (.slice A n c):=by simp[o,go_sem]
  have f0:w1.cell? ⟨w.heap.size+1,0,none⟩=some (.bool na):=by simp[o,go_sem]
  have g2:w1.cell? ⟨w.heap.size+1,1,none⟩=some (.slice B m d):=by simp[o,go_sem]
  have g7:Blk w1 (w.heap.size+1+1) 39 #[.bool false,.slice none 0 0]:=by
   refine Ze f ?_;exact Cg
  have g3:=g7.cell 0;have g4:=g7.cell 1;have g5:=g7.frozen 0;have g6:=g7.frozen 1;simp at g3 g4
  go_region_held3 (λw'=>w'.cell? ⟨w.heap.size,0,none⟩=some (.bool na)/\w'.cell? ⟨w.heap.size,1,none⟩=some (.slice A n c)/\w'.cell? ⟨w.heap.size+1,0,none⟩=some (.bool na)/\w'.cell? ⟨w.heap.size+1,1,none⟩=some (.slice B m d))
   (((try dsimp only);(repeat' apply Qn);all_goals (first|go_keep|(simp[*,go_sem];done))))
   (first
    | (go_at_call 168;refine(Zs3 _ _ _ _ _ _ _ _ _ (by exact I) (by exact u) Gk Gk).mono ?_;rintro e w2 ⟨A2,n2,c2,l2,rfl,O,cA,aa⟩;have k0:=Zc aa g0;have k1:=Zc aa g1;have j0:=Zc aa f0;have k2:=Zc aa g2;have k3:=Zc aa g3;have k4:=Zc aa g4;have k5:=Zo aa g3 g5;have k6:=Zo aa g4 g6;have k7:=Ze aa g7)
    | (go_at_call 158;refine(Zcb _ _ _ _ _ _ (by exact O)).mono ?_;rintro e w3 ⟨ah,aD,A3,n3,c3,aL,rfl,bY⟩;have m0:=Zc ah k0;have m1:=Zc ah k1;have i0:=Zc ah j0;have m2:=Zc ah k2;have m3:=Zc ah k3;have m4:=Zc ah k4;have m5:=Zo ah k3 k5;have m6:=Zo ah k4 k6;have m7:=Ze ah k7))
  exact Ea
 have V:(na == nb)=false:=by simpa using hs
 by_cases eZ:0<=cv
 ·have C:=dz.out.1 eZ
  have HLE:Hid (m<=n):=by have:=Z6 C;rw[ha.len,hb.len]at this;exact this
  have HVL:Hid (val (digits vb)<=val (digits va)):=by rw[Zk,Zk];exact C
  have HZ:∀ l:List Nat,val l+val (digits vb)=val (digits va)->sg na (val l)=sg na va+sg nb vb:=λl h=>Zfk hs (by rw[Zk,Zk]at h;exact h);clear J C hs;go_in;go_wp2_with (go_at_call 186;refine(Zct _ _ _ _ _ _ _ _ _ (((ha.alloc _).alloc _).alloc _) (((hb.alloc _).alloc _).alloc _)).mono ?_;rintro e w1 ⟨y,f⟩;rw[HC.out]at y;subst y;obtain⟨o,U⟩:=Zc1 f;have T:w.heap.size+1+1<w1.heap.size:=by(have:=f.size;simp at this;omega));have ae:Below w.heap.size w w1:=(((((Qb w.heap.size w).alloc (Qa _) _).alloc Gh _).alloc Gg _).trans (f.mono Gg));have I:=ha.below ae;have u:=hb.below ae;have g0:w1.cell? ⟨w.heap.size,0,none⟩=some (.bool na):=by simp[o,go_sem]
  have g1:w1.cell? ⟨w.heap.size,1,none⟩=some (.slice A n c):=by simp[o,go_sem]
  have f0:w1.cell? ⟨w.heap.size+1,0,none⟩=some (.bool nb):=by simp[o,go_sem]
  have g2:w1.cell? ⟨w.heap.size+1,1,none⟩=some (.slice B m d):=by simp[o,go_sem]
  have g7:Blk w1 (w.heap.size+1+1) 39 #[.bool false,.slice none 0 0]:=by
   refine Ze f ?_;exact Ev
  have g3:=g7.cell 0;have g4:=g7.cell 1;have g5:=g7.frozen 0;have g6:=g7.frozen 1;simp at g3 g4
  go_region_held3 (λw'=>w'.cell? ⟨w.heap.size,0,none⟩=some (.bool na)/\w'.cell? ⟨w.heap.size,1,none⟩=some (.slice A n c)/\w'.cell? ⟨w.heap.size+1,0,none⟩=some (.bool nb)/\w'.cell? ⟨w.heap.size+1,1,none⟩=some (.slice B m d))
   (((try dsimp only);(repeat' apply Qn);all_goals (first|go_keep|(simp[*,go_sem];done))))
   (first
    | (go_at_call 187;refine(Zkx _ _ _ _ _ _ _ _ _ (by exact I) (by exact u) HLE.out HVL.out Gk).mono ?_;rintro e w2 ⟨A2,n2,c2,l2,rfl,O,cA,aa⟩;have k0:=Zc aa g0;have k1:=Zc aa g1;have j0:=Zc aa f0;have k2:=Zc aa g2;have k3:=Zc aa g3;have k4:=Zc aa g4;have k5:=Zo aa g3 g5;have k6:=Zo aa g4 g6;have k7:=Ze aa g7)
    | (go_at_call 158;refine(Zcb _ _ _ _ _ _ (by exact O)).mono ?_;rintro e w3 ⟨ah,aD,A3,n3,c3,aL,rfl,bY⟩;have m0:=Zc ah k0;have m1:=Zc ah k1;have i0:=Zc ah j0;have m2:=Zc ah k2;have m3:=Zc ah k3;have m4:=Zc ah k4;have m5:=Zo ah k3 k5;have m6:=Zo ah k4 k6;have m7:=Ze ah k7))
  exact Ea
 have C:va<=vb:=by
   exact Ct
 have HLE:Hid (n<=m):=by have:=Z6 C;rw[ha.len,hb.len]at this;exact this
 have HVL:Hid (val (digits va)<=val (digits vb)):=by rw[Zk,Zk];exact C
 have HZ:∀ l:List Nat,val l+val (digits va)=val (digits vb)->sg nb (val l)=sg na va+sg nb vb:=λl h=>by rw[Int.add_comm];exact Zfk (Ne.symm hs) (by rw[Zk,Zk]at h;exact h)
 clear J C hs;go_in;go_wp2_with (go_at_call 186;refine(Zct _ _ _ _ _ _ _ _ _ (((ha.alloc _).alloc _).alloc _) (((hb.alloc _).alloc _).alloc _)).mono ?_;rintro e w1 ⟨y,f⟩;rw[HC.out]at y;subst y;obtain⟨o,U⟩:=Zc1 f;have T:w.heap.size+1+1<w1.heap.size:=by(have:=f.size;simp at this;omega));have ae:Below w.heap.size w w1:=(((((Qb w.heap.size w).alloc (Qa _) _).alloc Gh _).alloc Gg _).trans (f.mono Gg));have I:=ha.below ae;have u:=hb.below ae;have g0:w1.cell? ⟨w.heap.size,0,none⟩=some (.bool na):=by simp[o,go_sem]
 have g1:w1.cell? ⟨w.heap.size,1,none⟩=some (.slice A n c):=by simp[o,go_sem]
 have f0:w1.cell? ⟨w.heap.size+1,0,none⟩=some (.bool nb):=by simp[o,go_sem]
 have g2:w1.cell? ⟨w.heap.size+1,1,none⟩=some (.slice B m d):=by simp[o,go_sem]
 have g7:Blk w1 (w.heap.size+1+1) 39 #[.bool false,.slice none 0 0]:=by
  refine Ze f ?_;exact Ev
 have g3:=g7.cell 0;have g4:=g7.cell 1;have g5:=g7.frozen 0;have g6:=g7.frozen 1;simp at g3 g4
 go_region_held3 (λw'=>w'.cell? ⟨w.heap.size,0,none⟩=some (.bool na)/\w'.cell? ⟨w.heap.size,1,none⟩=some (.slice A n c)/\w'.cell? ⟨w.heap.size+1,0,none⟩=some (.bool nb)/\w'.cell? ⟨w.heap.size+1,1,none⟩=some (.slice B m d))
  (((try dsimp only);(repeat' apply Qn);all_goals (first|go_keep|(simp[*,go_sem];done))))
  (first
   | (go_at_call 187;refine(Zkx _ _ _ _ _ _ _ _ _ (by exact u) (by exact I) HLE.out HVL.out Gk).mono ?_;rintro e w2 ⟨A2,n2,c2,l2,rfl,O,cA,aa⟩;have k0:=Zc aa g0;have k1:=Zc aa g1;have j0:=Zc aa f0;have k2:=Zc aa g2;have k3:=Zc aa g3;have k4:=Zc aa g4;have k5:=Zo aa g3 g5;have k6:=Zo aa g4 g6;have k7:=Ze aa g7)
   | (go_at_call 158;refine(Zcb _ _ _ _ _ _ (by exact O)).mono ?_;rintro e w3 ⟨ah,aD,A3,n3,c3,aL,rfl,bY⟩;have m0:=Zc ah k0;have m1:=Zc ah k1;have i0:=Zc ah j0;have m2:=Zc ah k2;have m3:=Zc ah k3;have m4:=Zc ah k4;have m5:=Zo ah k3 k5;have m6:=Zo ah k4 k6;have m7:=Ze ah k7))
 exact Ea
def Zqx(w:World)(a b:Nat)(e:Ending)(w':World):Prop:=
 ∃ A n c B m d,e=.returned (.tuple #[.slice A n c,.slice B m d])/\Lim w' A n c (digits (a/b))/\Lim w' B m d (digits (a%b))/\Below w.heap.size w w'
theorem Blk.setCells{w:World}{g g' o:Nat}{t:TypeId}{cs:Array Value}{us:List Value}(h:Blk w g t cs)(hne:g≠g'):Blk (w.setCells g' o us) g t cs:=by
 induction us generalizing o w with
 | nil=>exact h
 | cons u us ih=>exact ih (h.far hne u)
theorem Znn{B:Nat}{w w':World}{g o:Nat}{us:List Value}(h:Below B w w')(hg:B<=g):Below B w (w'.setCells g o us):=by
 induction us generalizing o w' with
 | nil=>exact h
 | cons u us ih=>exact ih (h.setCell (p:=⟨g,o,none⟩) hg u)
theorem Zih{v:List Nat}{n:Nat}(hn:v.length=n)(h0:0<n)(hlt:Lt32 v):val v<(v[n-1]?.getD 0+1)*pw (n-1):=by
 have e:=Zae v (n-1) Gk;rw[Zbz Gk,List.drop_of_length_le Gk]at e;have h1:=Zgp (hlt.take (n-1));rw[Qj,Nat.min_eq_left Gk]at h1;simp only[val]at e;rw[e,Nat.add_mul,Nat.one_mul,Nat.mul_comm (v[n-1]?.getD 0)];simp only[Nat.mul_zero,Nat.add_zero];omega
theorem Zmr{v:Nat}(h:(digits v).length=1):digits v=[v]/\0<v/\v<4294967296:=by
 have hv:0<v:=length_digits_pos.1 Gk;have e:=Zcw v;rw[h]at e;have:v<4294967296:=e;refine⟨?_,hv,this⟩;rw[Zdv Gk,Qt this,Qu this,Zav]
theorem Zsm(A B:Option Addr)(n c m d:Nat)(a b:Nat)(w:World)(ha:Lim w A n c (digits a))(hb:Lim w B m d (digits b))(hn:n<=100000)(h:a<b) :
    Calls Tryz.prog 182 #[.slice A n c,.slice B m d] w (Zqx w a b):=by
 have y:Hid (Zcm (digits a) (digits b)<0):=by
  have:=(Zhu (va:=a) (vb:=b));unfold Hid;omega
 obtain⟨cv,f⟩:∃ x:Int,Zcm (digits a) (digits b)=x:=⟨_,rfl⟩;have I:cv<0:=by rw[<- f];exact y.out
 have HC:=Zd f;clear y f;go_in;go_wp2_with fail;refine(Zct _ _ _ _ _ _ _ _ _ ha hb).mono ?_;rintro e w1 ⟨u,o⟩;rw[HC.out]at u;subst u;go_wp2_with fail;refine(Zib _ _ _ _ _ (ha.below o) Gk).mono ?_;rintro e w2 ⟨v,rfl,hO,C⟩;obtain⟨A2,c2,hv,hL⟩:=hO.lim;subst hv;go_wp2_with fail
 go_ret2
 have hB:Below w.heap.size w w2:=Gs o C;exact⟨_,_,_,_,_,_,rfl,by rw[Qt h,Zav];exact Lim.nil _ _ _ (Qf _),by rw[Qu h];rw[show (digits a).length=n from ha.len]at hL ⊢;exact hL,hB⟩
theorem IN{G:Prop}(h:G:=by
 have:=Lim.of_blk (l:=[r]) (Blk.new w2 t (Z4 [r])) (Lt32.cons dq Lt32.nil) (by simp[maxLen]);exact this):G:=h
theorem Zt7(A B:Option Addr)(n c m d:Nat)(a b:Nat)(w:World)(ha:Lim w A n c (digits a))(hb:Lim w B m d (digits b))(hn:n<=100000)(h:b<=a)(hm:m=1) :
    Calls Tryz.prog 182 #[.slice A n c,.slice B m d] w (Zqx w a b):=by
 subst hm;have a8:=ha.2.1;have a2:=ha.2.2.1;have a9:=hb.2.1;have a4:=hb.2.2.1;unfold maxLen at a2 a4;obtain⟨cv,u⟩:∃ x:Int,Zcm (digits a) (digits b)=x:=⟨_,rfl⟩;have I:¬ cv<0:=by rw[<- u];have:=(Zhu (va:=a) (vb:=b));omega
 have a3:decide (cv<0)=false:=by simpa using I
 have HC:=Zd u;clear u I;obtain⟨J,U,C⟩:=Zmr hb.len;obtain⟨g,o,rfl,f⟩:=hb.at_ (k:=0) Gk;rw[J]at f;simp at f;replace J:=Zd J;have dq:a%b<4294967296:=Qq (Qc _ U) C;have a6:=Zd (Zk a);go_in;go_wp2_with fail;refine(Zct _ _ _ _ _ _ _ _ _ ha hb).mono ?_;rintro e w1 ⟨Y,y⟩;rw[HC.out]at Y;subst Y;have a1:=Zc y f;go_wp2_with fail;refine(Zxh _ _ _ b _ _ (ha.below y) U C Gk).mono ?_;rintro e w2 ⟨A2,n2,c2,rfl,a0,V⟩;rw[a6.out]at a0 ⊢;obtain⟨r,hr⟩:=Gz (a%b);rw[hr]at dq ⊢;replace hr:=Zd hr
 have a5:∀ t,Lim (w2.alloc (.cells #[limb r] t)) (some ⟨w2.heap.size,0,none⟩) 1 1 [r]:=λt=>by
  exact IN
 have O:=Zd a5;have a7:canon [r]=digits r:=by have:=Ztk (Lt32.cons dq Lt32.nil);simpa [val]using this
 go_wp2_with fail;refine(Zge _ _ _ _ _ (O.out _)).mono ?_;rintro e w3 ⟨rfl,rfl⟩;go_wp2_with fail
 go_ret2
 have T:=(O.out 106).canon.1;rw[show val [r]=r by simp[val]]at T ⊢;refine⟨_,_,_,_,_,_,rfl,a0.alloc _,by rw[hr.out];exact T,((Gs y V)).alloc (Qk y.size V.size) _⟩
theorem Lim.far{w:World}{A:Option Addr}{n c:Nat}{l:List Nat}(h:Lim w A n c l){p:Addr}{u:Value}(hne:∀ b o,A=some ⟨b,o,none⟩->b≠p.block):Lim (w.setCell p u) A n c l:=
 ⟨h.1,h.2.1,h.2.2.1,h.2.2.2.1,λhn=>by
  obtain⟨b,o,e,hc⟩:=h.2.2.2.2 hn;have hb:=hne b o e;exact⟨b,o,e,λk hk=>(Qi w _ _ u (λe2=>hb (by rw[e2]))).trans (hc k hk)⟩⟩
theorem Lim.setCells{A:Option Addr}{n c g:Nat}{l:List Nat}{us:List Value}(hne:∀ b o,A=some ⟨b,o,none⟩->b≠g):∀ {w:World} {o:Nat},Lim w A n c l->Lim (w.setCells g o us) A n c l:=by
 induction us with
 | nil=>exact λh=>h
 | cons u us ih=>exact λh=>ih (h.far hne)
theorem MutL.far{w:World}{g off:Nat}{l:List Nat}(h:MutL w g off l){p:Addr}{u:Value}(hne:g≠p.block):MutL (w.setCell p u) g off l:=λj hj =>
 ⟨(Qi w _ _ u (λe2=>hne (by rw[e2]))).trans (h j hj).1,by rw[World.frozen?_setCell];exact(h j hj).2⟩
theorem MutL.lim{w:World}{g:Nat}{l:List Nat}{n c:Nat}(h:MutL w g 0 l)(hl:l.length=n)(hnc:n<=c)(hcm:c<=maxLen)(hlt:Lt32 l):Lim w (some ⟨g,0,none⟩) n c l:=
 ⟨hl,hnc,hcm,hlt,λ_=>⟨g,0,rfl,λk hk=>(h k Gk).1⟩⟩
def DivR(w:World)(g q:Nat)(A:Option Addr)(c m nq:Nat)(vl:List Nat)(a b s k:Nat)(wr:World):Prop:=
 ∃ lu lq,DivI (2^s*a) (2^s*b) m lu lq k/\lq.length=nq/\MutL wr g 0 lu/\Blk wr q 106 (Z4 lq)/\Lim wr A m c vl/\Below w.heap.size w wr
theorem DivR.step{w wr wr1:World}{g q:Nat}{A:Option Addr}{c m nq:Nat}{vl lu lq:List Nat}{a b s k:Nat}{l:List Nat}(hD:DivI (2^s*a) (2^s*b) m lu lq (k+1))(hq:lq.length=nq)(hM:MutL wr g 0 lu)(hB:Blk wr q 106 (Z4 lq))
    (hL:Lim wr A m c vl) (hw:Below w.heap.size w wr) (hv:val vl=2^s*b) (hlen:l.length=m+1) (hlt:Lt32 l) (hl:val l=val ((lu.drop k).take (m+1))%val vl) (hb1:Below wr.heap.size wr wr1) (hQ:val ((lu.drop k).take (m+1))/val vl<4294967296)
    (hgq:g≠q) (hA:∀ b o,A=some ⟨b,o,none⟩->b≠g/\b≠q) (hg:w.heap.size<=g) (hqs:w.heap.size<=q) :
    DivR w g q A c m nq vl a b s k ((wr1.setCells g k (l.map limb)).setCell ⟨q,k,none⟩ (limb (val ((lu.drop k).take (m+1))/val vl))):=by
 have h:2^s*b<=pw m:=by rw[<- hv];exact Ql hL.lt_pw
 have f:k+l.length<=lu.length:=by have:=hD.2.2.1;have:=hD.2.2.2.1;omega
 refine⟨splice lu k l,lq.set k (val ((lu.drop k).take (m+1))/val vl),hD.step h hlen hlt hQ (by rw[hv]) (by rw[<- hv];exact hl),by rw[Qm];exact hq,
  ((hM.below hb1).splice f).far hgq,?_,((hL.below hb1).setCells (λb o e=>(hA b o e).1)).far (λb o e=>(hA b o e).2),?_⟩
 ·rw[<- Zb6]
  exact((hB.below hb1 hB.lt).setCells (Ne.symm hgq)).set_ _ _
 exact(Znn (Gs hw hb1) hg).setCell (p:=⟨q,k,none⟩) hqs _
theorem IG{G:Prop}(h:G:=by
 have:=Lim.of_blk bS hD.2.1 (by rw[hq.out];unfold maxLen;omega);rw[hq.out]at this;exact this):G:=h
theorem Ig{G:Prop}(h:G:=by
 have h1:2^s*(x+1)<=2^s*2^(32-s):=Nat.mul_le_mul_left _ hxs;rw[<- Nat.pow_add,show s+(32-s)=32 by omega]at h1;exact h1):G:=h
theorem Io{G:Prop}(h:G:=by
 replace hfin:=Zd hfin;go_wp2_with fail
 go_roundw
 case rel=>exact⟨k,by omega,by go_num,hfin.out⟩
 case measure=>simp[intOf] <;> omega):G:=h
theorem Iu{G:Prop}(h:G:=by
 have h1:=Zae o3 m Gk;rcases Nat.eq_zero_or_pos (val (o3.drop m))with h0|h0;rw[h0]at h1;omega;have:=Nat.mul_le_mul_left (pw m) h0;omega):G:=h
theorem EE{G:Prop}(h:G:=by
 have h1:=DivI.start (a:=digits a) (b:=digits b) (u:=o4) (s:=s) (n:=m) (by rw[cF];exact cP.out) (by rw[cO.out,ha.len]) dP.2 (by rw[ha.len];exact iz) ha.lt (by rw[cG];have:=Nat.mul_le_mul_right (pw (m-1)) (show 1<=x by omega);omega) Gk;rw[cF,cG,ha.len]at h1;exact⟨o4,_,h1,by simp,eR.below ((Below.refl _ _).alloc (Nat.le_refl _) _),Blk.new _ _ _,bz.alloc _,eK.alloc eK.size _⟩):G:=h
theorem Zs2(A B:Option Addr)(n c m d:Nat)(a b:Nat)(w:World)(ha:Lim w A n c (digits a))(hb:Lim w B m d (digits b))(hn:n<=100000)(h:b<=a)(hm:2<=m) :
    Calls Tryz.prog 182 #[.slice A n c,.slice B m d] w (Zqx w a b):=by
 have i1:=ha.2.1;have g0:=ha.2.2.1;have h8:=hb.2.1;have g1:=hb.2.2.1;unfold maxLen at g0 g1;have iz:m<=n:=by have:=Z6 h;rw[ha.len,hb.len]at this;exact this
 obtain⟨i0,hi,f8,g9,g5⟩:=info_parts Zdn;have h9:=Zgs (P:=Tryz.prog) 37 106 Tryz.underlying37 hi f8 g9 g5 ((n:Int)+1-m) (n+1-m) Gk Gk;obtain⟨cv,a1⟩:∃ x:Int,Zcm (digits a) (digits b)=x:=⟨_,rfl⟩;have a7:¬ cv<0:=by rw[<- a1];have:=(Zhu (va:=a) (vb:=b));omega
 have f6:decide (cv<0)=false:=by simpa using a7
 have HC:=Zd a1;clear a1 a7;have i4:((m:Int) == 1)=false:=by simp;omega
 obtain⟨g,o,rfl,y⟩:=hb.at_ (k:=m-1) Gk;have f:=hb.len;have b3:=Zfx (v:=b) Gk;have e8:=Zqh f Gk;have a6:=hb.lt.get (m-1);have e6:=Zcw b;rw[f]at b3 e6;have T:=Zih f Gk hb.lt;rw[Zk]at e8 T;obtain⟨x,hx⟩:=Gz ((digits b)[m-1]?.getD 0);rw[hx]at y b3 e8 a6 T;replace f:=Zd f;replace hx:=Zd hx;have cF:=Zd (Zk a);have cG:=Zd (Zk b);go_in;go_wp2_with fail;refine(Zct _ _ _ _ _ _ _ _ _ ha hb).mono ?_;rintro e w1 ⟨c7,I⟩;rw[HC.out]at c7;subst c7;have a4:=Zc I y;go_wp2_with fail;refine(Z1g x _ Gk a6).mono ?_;rintro e w2 ⟨s,rfl,hs,hxs,rfl⟩;have f5:=ha.below I;have c2:=hb.below I;go_wp2_with fail
 go_region_with (first
  | (go_at_call 166;((with_reducible refine(Zs9 (some ⟨g,o,none⟩) m d s (digits b) _ c2.drew hs Gk).mono ?_));rintro e w3 ⟨v3,o3,rfl,e5,V,a0,a3⟩;obtain⟨A3,c3,J,O⟩:=e5.lim;rw[V]at J O;subst J;have h5:=O.2.1;have e0:=O.2.2.1;unfold maxLen at e0;replace V:=Zd V;replace a0:=Zd a0;clear e5)
  | (go_at_call 166;((with_reducible refine(Zs9 A n c s (digits a) _ (f5.drew.below a3) hs Gk).mono ?_));rintro e w4 ⟨v4,o4,rfl,dP,cO,cP,b8⟩;obtain⟨g4,c4,b2,i3,h6,d8,d0,eR⟩:=dP.mut Gk;rw[cO]at b2 d8;subst b2;unfold maxLen at d0;replace cO:=Zd cO;replace cP:=Zd cP))
 all_goals go_wp2_with fail
 all_goals
  replace cG:=cG.out;replace cF:=cF.out;rw[cG]at a0;rw[cF]at cP;have a9:=V.out;have J:=a0.out
  have d9:2^s*(x+1)<=4294967296:=by
   exact Ig
  have e3:2^s*b<pw m:=by
   have h1:2^s*b<2^s*((x+1)*pw (m-1)):=Nat.mul_lt_mul_of_pos_left T (Qs Gk);have h2:2^s*((x+1)*pw (m-1))<=4294967296*pw (m-1):=by rw[<- Nat.mul_assoc];exact Qh _ d9
   rw[<- Za6,show m-1+1=m by omega]at h2;omega
  have a2:val (o3.take m)=2^s*b:=by
   exact Iu
  have bz:=(O.take (k:=m) Gk).below b8
  have i2:pw (m-1)<=2^s*b:=by
   have h1:=Qh (pw (m-1)) (show 1<=x by omega);have h2:1*b<=2^s*b:=Qh _ (Qs Gk);omega
  have g8:(o3.take m)[m-1]?.getD 0≠0:=λh0=>by
   have h1:=Zih (v:=o3.take m) (n:=m) (by rw[Qj,a9];omega) Gk bz.lt;rw[h0,a2]at h1;omega
  have eK:Below w.heap.size w w4:=(I.trans ((Zv a3).mono I.size)).trans (b8.mono (Qk I.size (Zv a3).size))
  have a5:DivR w g4 w4.heap.size A3 c3 m (n+1-m) (o3.take m) a b s (n+1-m) (w4.alloc (.cells (Z4 (Qp (n+1-m) 0)) 106)):=by
   exact EE
  have g2:∀ b o,A3=some ⟨b,o,none⟩->b≠g4/\b≠w4.heap.size:=λb o e=>by
   subst e;have h1:=Zp (O.cell (k:=0) Gk);have:=b8.size;simp only[]at h1;omega
  have f9:w.heap.size<=g4:=by have:=I.size;have:=(Zv a3).size;omega
  have b9:g4≠w4.heap.size:=Gk;clear eR dP cO cP a0 V cF cG y a4 J a9;replace a2:=Zd a2
  go_loopw [12] (λjv wr=>∃ k:Nat,k<=n+1-m/\jv=.int .i64 ((k:Int)-1)/\DivR w g4 w4.heap.size A3 c3 m (n+1-m) (o3.take m) a b s k wr) (λjv _=>(intOf jv+1).toNat)
  case atStart=>exact⟨n+1-m,Qa _,rfl,a5⟩
  case round =>
   obtain⟨k,hk,rfl,lu,lq,hD,hq,hM,bS,f0,b7⟩:=hrel;replace hq:=Zd hq;rcases k with _|k
   ·obtain⟨e1,e2⟩:=hD.stop
    have b4:Lim wr (some ⟨g4,0,none⟩) (n+1) c4 lu:=hM.lim (by have:=hD.2.2.1;have:=hq.out;omega) d8 (by unfold maxLen;omega) hD.1
    have h3:Lim wr (some ⟨w4.heap.size,0,none⟩) (n+1-m) (n+1-m) lq:=by
     exact IG
    have c9:=b4.canon.1;replace e1:=Zd e1;replace e2:=Zd e2;clear hD;go_wp2_with fail;refine(Zge _ _ _ _ _ b4).mono ?_;rintro e w5 ⟨rfl,rfl⟩;go_wp2_with fail;refine(Zow _ _ _ s _ _ c9 hs (by have:=b4.canon.2;omega)).mono ?_;rintro e w6 ⟨A6,n6,c6,o6,b6,rfl,c0,c8,Y⟩
    have hz:Hid (val o6=a%b):=by
     unfold Hid;rw[c8,Zk,e2.out,Nat.mul_div_cancel_left _ (Qs Gk)]
    clear c8;have b1:=h3.below Y;go_wp2_with fail;refine(Zge _ _ _ _ _ b1).mono ?_;rintro e w7 ⟨rfl,rfl⟩;go_wp2_with fail;refine(Zge _ _ _ _ _ c0).mono ?_;rintro e w8 ⟨rfl,rfl⟩;go_wp2_with fail
    go_ret2
    refine⟨_,_,_,_,_,_,rfl,?_,?_,Gs b7 Y⟩;rw[<- e1.out];exact b1.canon.1;rw[<- hz.out];exact c0.canon.1
   have h4:=hD;obtain⟨d1,d2,d3,d4,d5,d6,d7⟩:=h4;replace d3:=Zd d3;replace d5:=Zd d5;replace d7:=Zd d7;have e4:=bS.cell k;rw[Zaw lq k (by rw[hq.out];omega)]at e4;have g6:=bS.frozen k;go_wp2_with fail;have g7:2^s*b<=pw m:=Ql e3;obtain⟨c5,c1⟩:=hD.win g7;have C:((lu.drop k).take (m+1)).length=m+1:=by rw[Qj,List.length_drop,d3.out];omega
   have f7:MutL wr g4 k ((lu.drop k).take (m+1)):=by
    have:=hM.win (k:=k) (n:=m+1) (by rw[d3.out];omega)
    rwa [Nat.zero_add]at this
   have U:val ((lu.drop k).take (m+1))<4294967296*val (o3.take m):=by rw[c5,a2.out];exact c1
   rw[show k+m+1-k=m+1 by omega];refine(Zz3 g4 k m (c4-k) c3 A3 _ _ _ f7 C ((d1.drop k).take (m+1)) Gk (by unfold maxLen;omega) Gk Gk f0 U g8).mono ?_;rintro e w5 ⟨l,w6,rfl,e7,e9,f3,Y,b5⟩
   have b0:val ((lu.drop k).take (m+1))/val (o3.take m)<4294967296:=by
    rw[Nat.div_lt_iff_lt_mul Gk];exact U
   have hfin:=DivR.step (wr:=wr) hD hq.out hM bS f0 b7 a2.out (by rw[e7];exact C) e9 f3 Y b0 b9 g2 f9 eK.size;rw[<- b5]at hfin;have a8:Blk w5 w4.heap.size 106 (Z4 lq):=by rw[b5];exact(bS.below Y bS.lt).setCells (Ne.symm b9)
   have f4:=a8.cell k;rw[Zaw lq k (by rw[hq.out];omega)]at f4;have h7:=a8.frozen k;obtain⟨Q,hQ⟩:=Gz (val ((lu.drop k).take (m+1))/val (o3.take m));rw[hQ]at hfin b0 ⊢;clear e4 g6 b5 f3 e7 hQ c5 C U c1;exact Io
theorem Zg6(A B:Option Addr)(n c m d:Nat)(a b:Nat)(w:World)(ha:Lim w A n c (digits a))(hb:Lim w B m d (digits b))(hn:n<=100000)(hb0:0<b) :
    Calls Tryz.prog 182 #[.slice A n c,.slice B m d] w (Zqx w a b):=by
 rcases Qg a b with h|h;exact Zsm A B n c m d a b w ha hb hn h;rcases Qg m 2 with h2|h2
 ·have h1:0<(digits b).length:=length_digits_pos.2 hb0
  rw[hb.len]at h1;exact Zt7 A B n c m d a b w ha hb hn h Gk
 exact Zs2 A B n c m d a b w ha hb hn h h2
def BadW(w:World)(e:Ending)(w':World):Prop:=e=.returned (.tuple #[.agg #[.bool false,.slice none 0 0],.int .i64 8])/\Below w.heap.size w w'
theorem Zum(s:Bool)(v:Nat):sg (!s) v=- sg s v:=by cases s <;> simp[sg]
theorem Z0o(s t:Bool)(a b:Nat):sg (s != t) (a*b)=sg s a*sg t b:=by cases s <;> cases t <;> simp[sg,Int.neg_mul,Int.mul_neg]
theorem CF{G:Prop}(h:G:=by
 have:=Blk.new (w.alloc (.cells #[.bool neg,.slice A n c] 39)) 39 #[.bool false,.slice none 0 0];exact Et):G:=h
theorem Neg_ok(neg:Bool)(A:Option Addr)(n c:Nat)(z:Int)(w:World)(hz:Wd w neg A n c z) :
    Calls Tryz.prog 183 #[.agg #[.bool neg,.slice A n c]] w (ResW w (-z)):=by
 have hL:=hz.lim;have hn:=hz.2.1
 have hW:∀ X Y t,WL (((w.alloc X).alloc Y).alloc (.cells #[.bool neg,.slice A n c] t)) (some ⟨w.heap.size+1+1,0,none⟩) 1 1 [⟨neg,A,n,c,digits z.natAbs⟩]:=λX Y t=>by
  have:=WL.one (neg:=neg) ((hL.alloc X).alloc Y) t;exact Et
 have hW:=Zd hW;have C:∀ X Y Z:Obj,Below w.heap.size w (((w.alloc X).alloc Y).alloc Z):=λX Y Z=>(((Qb w.heap.size w).alloc (Qa _) _).alloc Gh _).alloc Gg _;have C:=Zd C;have y:Hid (okW neg (digits z.natAbs)=true):=hz.ok;have a1:=Zd hz.sgEq;clear hz;go_in;go_wp2_with fail;refine(Zdo (hW.out _ _ _) (by have:=y.out;simp[WE.ok,this])).mono ?_;rintro e w1 ⟨rfl,u⟩;obtain⟨J,a2⟩:=Zc1 u;have a5:w.heap.size+1+1<w1.heap.size:=by have:=u.size;simp at this;omega
 have o:Below w.heap.size w w1:=(C.out _ _ _).trans (u.mono Gg);have g0:w1.cell? ⟨w.heap.size,0,none⟩=some (.bool neg):=by simp[J,go_sem]
 have g1:w1.cell? ⟨w.heap.size,1,none⟩=some (.slice A n c):=by simp[J,go_sem]
 have g7:Blk w1 (w.heap.size+1) 39 #[.bool false,.slice none 0 0]:=by
  refine Ze u (Blk.alloc ?_ _);exact CF
 have g3:=g7.cell 0;have g4:=g7.cell 1;have g5:=g7.frozen 0;have g6:=g7.frozen 1;simp at g3 g4;have a0:=hL.below o;clear J a2;go_wp2_with fail
 go_region_held3 (λw'=>w'.cell? ⟨w.heap.size,0,none⟩=some (.bool neg)/\w'.cell? ⟨w.heap.size,1,none⟩=some (.slice A n c))
  (((try dsimp only);(repeat' apply Qn);all_goals (first|go_keep|(simp[*,go_sem];done))))
  (first
   | (go_at_call 181;refine(Zib _ _ _ _ _ (by exact a0) Gk).mono ?_;rintro e w2 ⟨v2,rfl,T,f⟩;obtain⟨A2,c2,V,a3⟩:=T.lim;subst V;clear T;have k0:=Zc f g0;have k1:=Zc f g1;have k3:=Zc f g3;have k4:=Zc f g4;have k5:=Zo f g3 g5;have k6:=Zo f g4 g6;have k7:=Ze f g7)
   | (go_at_call 158;refine(Zcb _ _ _ _ _ _ (by exact a3)).mono ?_;rintro e w3 ⟨h,O,A3,n3,c3,I,rfl,U⟩;have m0:=Zc h k0;have m1:=Zc h k1;have m3:=Zc h k3;have m4:=Zc h k4;have m5:=Zo h k3 k5;have m6:=Zo h k4 k6;have m7:=Ze h k7))
 have a4:Below w.heap.size w w3:=(o.trans ((Zv f).mono o.size)).trans (h.mono (Qk o.size (Zv f).size))
 have HZ:sg (!neg) (val (digits z.natAbs))=-z:=by
  have h1:=a1.out;rw[Zum,h1]
 go_wp2
 refine bodyPost_ret (v:=.tuple #[.agg #[.bool O,.slice A3 n3 c3],.int .i64 I]) (by simp[results,Tryz.results183,go_sem,m3,m4]) rfl ?_;exact ResW.box (HZ▸U) a4 Gk m7
def Zco(a b:Int):Int:=if a<b then -1 else if b<a then 1 else 0
theorem Zdh(a b:Nat):Zcm (digits a) (digits b)=Zco a b:=by
 unfold Zcm Zco;rw[Zk,Zk];have h1:a<=b->(digits a).length<=(digits b).length:=Z6;have h2:b<=a->(digits b).length<=(digits a).length:=Z6
 (repeat' split) <;> first|rfl|omega
theorem Cx{G:Prop}(h:G:=by
 go_ret;exact hP.out _ _ ⟨rfl,(aq.out _ _).trans (ab.mono Gg)⟩ Gh):G:=h
theorem Cy{G:Prop}(h:G:=by
 go_ret;exact hN.out _ _ ⟨rfl,(aq.out _ _).trans (ab.mono Gg)⟩ Gh):G:=h
theorem IF{G:Prop}(h:G:=by
 refine⟨?_,h2⟩;rw[h1,gK.out];congr 2;unfold Zco
 split <;> split <;> (try split) <;> omega):G:=h
theorem IT{G:Prop}(h:G:=by
 refine⟨?_,h2⟩;rw[h1,gJ.out,show ((za.natAbs:Nat):Int)=za by omega,show ((zb.natAbs:Nat):Int)=zb by omega]):G:=h
theorem Fy{G:Prop}(h:G:=by
 refine Zid ?_;unfold Zco;cases b
 ·have h5:¬ za<0:=by intro h;simp[h,h3]at di
  have h6:zb<0:=by by_cases h:zb<0;exact h;simp[h,h4]at dp
  rw[Gw (show ¬ za<zb by omega),Gx (show zb<za by omega)];rfl
 have h5:za<0:=by by_cases h:za<0;exact h;simp[h,h3]at di
 have h6:¬ zb<0:=by intro h;simp[h,h4]at dp
 rw[Gx (show za<zb by omega)];rfl):G:=h
theorem to_ok(na nb:Bool)(A B:Option Addr)(n c m d:Nat)(za zb:Int)(w:World)(ha:Wd w na A n c za)(hb:Wd w nb B m d zb) :
    Calls Tryz.prog 165 #[.agg #[.bool na,.slice A n c],.agg #[.bool nb,.slice B m d]] w λe w'=>e=.returned (.int .i64 (Zco za zb))/\Below w.heap.size w w':=by
 have f:=ha.lim;have o:=hb.lim;have di:=ha.1;have dp:=hb.1;have aq:∀ X Y:Obj,Below w.heap.size w ((w.alloc X).alloc Y):=λX Y=>((Qb w.heap.size w).alloc (Qa _) _).alloc Gh _;have aq:=Zd aq;have gJ:=Zd (Zdh za.natAbs zb.natAbs);have gK:=Zd (Zdh zb.natAbs za.natAbs)
 have hP:Hid (∀ (e:Ending) (w':World),(e=.returned (.int .i64 (Zcm (digits za.natAbs) (digits zb.natAbs)))/\Below w.heap.size w w')->(na=false/\nb=false)->e=.returned (.int .i64 (Zco za zb))/\Below w.heap.size w w'):=λe w' ⟨h1,h2⟩ ⟨h3,h4⟩=>by
  subst h3 h4;have h5:¬ za<0:=by intro h;simp[h]at di
  have h6:¬ zb<0:=by intro h;simp[h]at dp
  exact IT
 have hN:Hid (∀ (e:Ending) (w':World),(e=.returned (.int .i64 (Zcm (digits zb.natAbs) (digits za.natAbs)))/\Below w.heap.size w w')->(na=true/\nb=true)->e=.returned (.int .i64 (Zco za zb))/\Below w.heap.size w w'):=λe w' ⟨h1,h2⟩ ⟨h3,h4⟩=>by
  subst h3 h4;have h5:za<0:=by by_cases h:za<0;exact h;simp[h]at di
  have h6:zb<0:=by by_cases h:zb<0;exact h;simp[h]at dp
  exact IF
 have hM:Hid (∀ b,na=b->nb=!b->Ending.returned (.int .i64 (if b then -1 else 1))=.returned (.int .i64 (Zco za zb))):=λb h3 h4=>by
  exact Fy
 clear ha hb di dp;cases na <;> cases nb
 ·go_in
  go_wp2_with (go_at_call 186;((with_reducible refine(Zct _ _ _ _ _ _ _ _ _ ((f.alloc _).alloc _) ((o.alloc _).alloc _)).mono ?_));rintro e w1 ⟨rfl,ab⟩);exact Cx
 ·go_in
  go_wp2_with fail;go_ret;exact⟨hM.out false rfl rfl,aq.out _ _⟩
 ·go_in
  go_wp2_with fail;go_ret;exact⟨hM.out true rfl rfl,aq.out _ _⟩
 go_in
 go_wp2_with (go_at_call 186;((with_reducible refine(Zct _ _ _ _ _ _ _ _ _ ((o.alloc _).alloc _) ((f.alloc _).alloc _)).mono ?_));rintro e w1 ⟨rfl,ab⟩);exact Cy
theorem Zre(na nb:Bool)(A B:Option Addr)(n c m d:Nat)(za zb:Int)(w:World)(ha:Wd w na A n c za)(hb:Wd w nb B m d zb) :
    Calls Tryz.prog 121 #[.agg #[.bool na,.slice A n c],.agg #[.bool nb,.slice B m d]] w λe w'=>e=.returned (.tuple #[.int .i64 (Zco za zb),.int .i64 0])/\Below w.heap.size w w':=by
 have y:=ha.lim;have I:=hb.lim;have o:∀ X Y Z:Obj,Below w.heap.size w (((w.alloc X).alloc Y).alloc Z):=λX Y Z=>(((Qb w.heap.size w).alloc (Qa _) _).alloc Gh _).alloc Gg _
 have hW:∀ X Y t,WL (((w.alloc X).alloc Y).alloc (.cells #[.bool na,.slice A n c,.bool nb,.slice B m d] t)) (some ⟨w.heap.size+1+1,0,none⟩) 2 2 [⟨na,A,n,c,digits za.natAbs⟩,⟨nb,B,m,d,digits zb.natAbs⟩]:=λX Y t=>by
  have:=WL.two (neg:=na) (neg':=nb) ((y.alloc X).alloc Y) ((I.alloc X).alloc Y) t;exact Et
 have hW:=Zd hW;have o:=Zd o;have u:Hid (okW na (digits za.natAbs)=true/\okW nb (digits zb.natAbs)=true):=⟨ha.ok,hb.ok⟩;have J:∀ (fn:Fn) (first cap:Array Value) (w:World),(Instr.makeFunc fn first cap).run Tryz.prog w=.ok (.func fn first cap) w:=λ_ _ _ _=>rfl;have HA:=Zd ha;have HB:=Zd hb;clear ha hb;go_in;go_wp2_with fail;refine(Zdo (hW.out _ _ _) (by have:=u.out;simp[WE.ok,this])).mono ?_;rintro e w1 ⟨rfl,h⟩;obtain⟨U,O⟩:=Zc1 h;have T:w.heap.size+1+1<w1.heap.size:=by have:=h.size;simp at this;omega
 have f:Below w.heap.size w w1:=(o.out _ _ _).trans (h.mono Gg);go_wp2_with fail;refine(to_ok na nb A B n c m d za zb _ (HA.out.below f) (HB.out.below f)).mono ?_;rintro e w2 ⟨rfl,C⟩;go_wp2_with fail
 go_ret2
 exact⟨rfl,Gs f C⟩
def Zki(w:World):Value->List Nat
 | .slice (some ad) n _=>(List.range n).map λk=>match w.cell? (ad.add k)with|some (.int _ x)=>x.toNat|_=>0
 | _=>[]
theorem Lim.mem{w:World}{A:Option Addr}{n c:Nat}{l:List Nat}(h:Lim w A n c l):Zki w (.slice A n c)=l:=by
 rcases A with _|ad
 ·have hn:n=0:=by
    exact Cw
  subst hn;exact(List.eq_nil_of_length_eq_zero h.len).symm
 unfold Zki;apply List.ext_getElem (by simp[h.len]);intro i h1 h2;obtain⟨b,o,e,hc⟩:=h.at_ (k:=i) (by rw[<- h.len];exact h2);injection e with e
 subst e;simp only[List.getElem_map,List.getElem_range,Zi,hc];simp[List.getElem?_eq_getElem h2]
def GcdR(w:World)(t:TypeId)(G:Nat)(xv yv:Value)(wr:World):Prop:=
 ∃ (u v:Nat) (A:Option Addr) (n c:Nat) (B:Option Addr) (m d:Nat),xv=.slice A n c/\yv=.slice B m d/\Lim wr A n c (digits u)/\Lim wr B m d (digits v)/\n<=4096/\m<=4096/\Nat.gcd u v=G/\Blk wr (w.heap.size+1+1) t #[.bool false,.slice none 0 0]/\Below w.heap.size w wr
theorem IH{G:Prop}(h:G:=by
 rcases Nat.eq_zero_or_pos v with h|h;exact h;have:=length_digits_pos.2 h;rw[bz.len]at this;omega):G:=h
theorem EF{G:Prop}(h:G:=by
 rintro e w5 ⟨A6,n6,c6,B6,m6,d6,rfl,jP,fL,ao⟩;go_wp2_with fail
 go_roundw
 case rel=>exact⟨v,u%v,_,_,_,_,_,_,rfl,rfl,bz.below ao,fL,iy,by have:=Z6 (Nat.le_of_lt (Nat.mod_lt u du));rw[fL.len,bz.len]at this;omega,by rw[<- hg.out,Nat.gcd_comm u v,Nat.gcd_rec v u,Nat.gcd_comm],Ze ao az.out,Gs dx ao⟩
 case measure=>simp only[eE.out,fL.mem,Zk];exact Nat.mod_lt u du):G:=h
theorem Cf{G:Prop}(h:G:=by
 have:=WL.two (neg:=na) (neg':=nb) (((aS.alloc X).alloc Y).alloc Z) (((aG.alloc X).alloc Y).alloc Z) t;exact Et):G:=h
theorem Zk2(na nb:Bool)(A B:Option Addr)(n c m d:Nat)(za zb:Int)(w:World)(ha:Wd w na A n c za)(hb:Wd w nb B m d zb) :
    Calls Tryz.prog 151 #[.agg #[.bool na,.slice A n c],.agg #[.bool nb,.slice B m d]] w (ResW w (Nat.gcd za.natAbs zb.natAbs:Nat)):=by
 have aS:=ha.lim;have aG:=hb.lim;have hn:=ha.2.1;have hm:=hb.2.1;have T:∀ X Y Z V:Obj,Below w.heap.size w ((((w.alloc X).alloc Y).alloc Z).alloc V):=λX Y Z V=>((((Qb w.heap.size w).alloc (Qa _) _).alloc Gh _).alloc Gg _).alloc Gg _
 have hW:∀ X Y Z t,WL ((((w.alloc X).alloc Y).alloc Z).alloc (.cells #[.bool na,.slice A n c,.bool nb,.slice B m d] t)) (some ⟨w.heap.size+1+1+1,0,none⟩) 2 2 [⟨na,A,n,c,digits za.natAbs⟩,⟨nb,B,m,d,digits zb.natAbs⟩]:=λX Y Z t=>by
  exact Cf
 have hW:=Zd hW;have T:=Zd T;have J:Hid (okW na (digits za.natAbs)=true/\okW nb (digits zb.natAbs)=true):=⟨ha.ok,hb.ok⟩;clear ha hb;generalize za.natAbs=va at *;generalize zb.natAbs=vb at *;obtain⟨G,hG⟩:=Gz (Nat.gcd va vb);rw[hG];replace hG:=Zd hG;go_in;go_wp2_with fail;refine(Zdo (hW.out _ _ _ _) (by have:=J.out;simp[WE.ok,this])).mono ?_;rintro e w1 ⟨rfl,y⟩;obtain⟨a0,b4⟩:=Zc1 y;have b7:w.heap.size+1+1+1<w1.heap.size:=by have:=y.size;simp at this;omega
 have o:Below w.heap.size w w1:=(T.out _ _ _ _).trans (y.mono Gg);have g1:w1.cell? ⟨w.heap.size,1,none⟩=some (.slice A n c):=by simp[a0,go_sem]
 have g2:w1.cell? ⟨w.heap.size+1,1,none⟩=some (.slice B m d):=by simp[a0,go_sem]
 have g7:Blk w1 (w.heap.size+1+1) 39 #[.bool false,.slice none 0 0]:=by
  refine Ze y (Blk.alloc ?_ _);exact Ev
 have C:=aS.below o;have a1:=aG.below o;replace g7:=Zd g7;clear a0 b4;go_wp2_with fail
 go_region_held3 (λw'=>w'.cell? ⟨w.heap.size,1,none⟩=some (.slice A n c)/\w'.cell? ⟨w.heap.size+1,1,none⟩=some (.slice B m d))
  (((try dsimp only);(repeat' apply Qn);all_goals (first|go_keep|(simp[*,go_sem];done))))
  ((go_at_call 181;refine(Zib _ _ _ _ _ (by exact C) Gk).mono ?_;rintro e w2 ⟨v2,rfl,a7,U⟩;obtain⟨A2,c2,a5,a9⟩:=a7.lim;rw[C.len]at a5 a9;subst a5;clear a7;have k1:=Zc U g1;have k2:=Zc U g2))
 have f:=Zv U;have b2:Below w.heap.size w w2:=Gs o f;have m7:Hid (Blk w2 (w.heap.size+1+1) 39 #[.bool false,.slice none 0 0]):=Ze f g7.out;have a4:=a1.below f;go_wp2_with fail
 go_loopw [7,8] (λxv yv wr=>GcdR w 39 G xv yv wr) (λ_ yv wr=>val (Zki wr yv))
 case atStart=>exact⟨va,vb,_,_,_,_,_,_,rfl,rfl,a9,a4,hn,hm,hG.out,m7.out,b2⟩
 case round =>
  obtain⟨u,v,A5,n5,c5,B5,m5,d5,rfl,rfl,I,bz,b6,iy,hg,az,dx⟩:=hrel;replace hg:=Zd hg;replace az:=Zd az;by_cases hm0:0<m5
  ·have du:0<v:=by rw[<- bz.len]at hm0;exact length_digits_pos.1 hm0
   have eE:=Zd bz.mem;go_wp2_with fail;refine(Zg6 _ _ _ _ _ _ u v _ I bz Gk du).mono ?_;exact EF
  obtain rfl:m5=0:=Gk
  have du:v=0:=by
   exact IH
  subst du;have b0:Hid (u=G):=by have:=hg.out;rw[Nat.gcd_zero_right]at this;exact this
  have g8:=az.out;have g3:=g8.cell 0;have g4:=g8.cell 1;have g5:=g8.frozen 0;have g6:=g8.frozen 1;simp at g3 g4;clear g8;go_wp2_with fail;refine(Zib _ _ _ _ _ I Gk).mono ?_;rintro e w5 ⟨v5,rfl,b1,ao⟩;obtain⟨A6,c6,a8,a3⟩:=b1.lim;rw[I.len]at a8 a3;subst a8;go_wp2_with fail;refine(Zcb _ _ _ _ _ _ a3).mono ?_;rintro e w6 ⟨a6,a2,A7,n7,c7,O,rfl,b3⟩;have b5:Below w.heap.size w w6:=(Gs dx ao).trans (a6.mono (Qk dx.size ao.size));have m8:=Ze a6 (Ze ao az.out);have m3:=m8.cell 0;have m4:=m8.cell 1;have m5:=m8.frozen 0;have m6:=m8.frozen 1;simp at m3 m4;replace m8:=Zd m8;go_wp2_with fail;have HZ:sg false (val (digits u))=(G:Int):=by rw[Zk,b0.out];rfl
  refine bodyPost_ret (v:=.tuple #[.agg #[.bool a2,.slice A7 n7 c7],.int .i64 O]) (by simp[results,Tryz.results151,go_sem,m3,m4]) rfl ?_;exact ResW.box (HZ▸b3) b5 Gk m8.out
theorem Gcd_bad(na nb:Bool)(A B:Option Addr)(n c m d:Nat)(la lb:List Nat)(w:World)(aS:Lim w A n c la)(aG:Lim w B m d lb)(f:(okW na la && okW nb lb)=false) :
    Calls Tryz.prog 151 #[.agg #[.bool na,.slice A n c],.agg #[.bool nb,.slice B m d]] w (BadW w):=by
 have o:∀ X Y Z V:Obj,Below w.heap.size w ((((w.alloc X).alloc Y).alloc Z).alloc V):=λX Y Z V=>((((Qb w.heap.size w).alloc (Qa _) _).alloc Gh _).alloc Gg _).alloc Gg _
 have hW:∀ X Y Z t,WL ((((w.alloc X).alloc Y).alloc Z).alloc (.cells #[.bool na,.slice A n c,.bool nb,.slice B m d] t)) (some ⟨w.heap.size+1+1+1,0,none⟩) 2 2 [⟨na,A,n,c,la⟩,⟨nb,B,m,d,lb⟩]:=λX Y Z t=>by
  exact Cf
 have hW:=Zd hW;have o:=Zd o;have f:=Zd f;go_in;go_wp2_with fail;refine(Zye (hW.out _ _ _ _) (by have:=f.out;simpa [WE.ok]using this)).mono ?_;rintro e w1 ⟨rfl,h⟩;obtain⟨u,I⟩:=Zc1 h;have J:w.heap.size+1+1+1<w1.heap.size:=by have:=h.size;simp at this;omega
 have y:Below w.heap.size w w1:=(o.out _ _ _ _).trans (h.mono Gg);go_wp2_with fail;have hg:w1.cell? ⟨w.heap.size+1+1,0,none⟩=some (.bool false):=by simp[u,go_sem]
 have C:w1.cell? ⟨w.heap.size+1+1,1,none⟩=some (.slice none 0 0):=by simp[u,go_sem]
 refine bodyPost_ret (v:=.tuple #[.agg #[.bool false,.slice none 0 0],.int .i64 8]) (by simp[results,Tryz.results151,go_sem,hg,C]) rfl ?_;exact⟨rfl,(y.setCell (p:=⟨w.heap.size+1+1,0,none⟩) Gg _).setCell (p:=⟨w.heap.size+1+1,1,none⟩) Gg _⟩
theorem fdm{z d q r:Int}(h:z=d*q+r)(hr:(0<=r/\r<d) \/ (d<r/\r<=0)):Qd z d=q/\Qe z d=r:=by
 rcases hr with ⟨h1,h2⟩|⟨h1,h2⟩;exact(Int.fdiv_fmod_unique Gk).2 ⟨by omega,h1,h2⟩;exact(Int.fdiv_fmod_unique' Gk).2 ⟨by omega,by omega,h2⟩
theorem Zh9(na nb:Bool)(U V:Nat)(hV:0<V)(h:U%V=0 \/ na=nb):Qd (sg na U) (sg nb V)=sg (na != nb) (U/V:Nat)/\Qe (sg na U) (sg nb V)=sg nb (U%V:Nat):=by
 have h1:=Qv U V;have h2:=Qc U hV;generalize U/V=x at *;generalize U%V=y at *;subst h1;have e:((V*x+y:Nat):Int)=(V:Int)*x+y:=by push_cast;rfl
 apply fdm
 ·cases na <;> cases nb <;> simp only[sg,e] <;> simp at h ⊢ <;> grind
 cases na <;> cases nb <;> simp[sg]at h ⊢ <;> omega
theorem Zo1(na nb:Bool)(U V:Nat)(hV:0<V)(hy:0<U%V)(h:na≠nb):Qd (sg na U) (sg nb V)=sg (na != nb) (U/V+1:Nat)/\Qe (sg na U) (sg nb V)=sg nb (V-U%V:Nat):=by
 have h1:=Qv U V;have h2:=Qc U hV;generalize U/V=x at *;generalize U%V=y at *;subst h1;have e:((V*x+y:Nat):Int)=(V:Int)*x+y:=by push_cast;rfl
 have e2:((V-y:Nat):Int)=(V:Int)-y:=Gk;apply fdm
 ·cases na <;> cases nb <;> simp only[sg,e,e2] <;> simp at h ⊢ <;> grind
 cases na <;> cases nb <;> simp[sg]at h ⊢ <;> omega
def Zke(w:World)(za zb:Int)(e:Ending)(w':World):Prop:=
 Below w.heap.size w w'/\∃ nq Aq kq cq nr Ar kr cr,e=.returned (.tuple #[.agg #[.bool nq,.slice Aq kq cq],.agg #[.bool nr,.slice Ar kr cr],.int .i64 0])/\Wd w' nq Aq kq cq (Qd za zb)/\Wd w' nr Ar kr cr (Qe za zb)
theorem IW{G:Prop}(h:G:=by
 rcases Nat.eq_zero_or_pos m2 with h|h;exact h;rw[<- aV.len]at h;have:=length_digits_pos.1 h;have:=hy.out;omega):G:=h
theorem Iq{G:Prop}(h:G:=by
 rw[<- bu];exact Lim.set_box (Lim.set_box (aV.below ao) aF.out (NoLimb.box _ _ _ _) 0 _) (aF.out.set_ 0 _) (NoLimb.box _ _ _ _) 1 _):G:=h
theorem Fo{G:Prop}(h:G:=by
 rw[<- bu];exact⟨cD.1,cD.2.1,Lim.set_box (Lim.set_box cD.2.2 aF.out (NoLimb.box _ _ _ _) 0 _) (aF.out.set_ 0 _) (NoLimb.box _ _ _ _) 1 _⟩):G:=h
theorem Ez{G:Prop}(h:G:=by
 rcases eT with ⟨-,rfl,gj⟩|⟨bC,-⟩
 case inr=>exact absurd dV Gk
 have r1:=cI.out.cell 0;have r2:=cI.out.cell 1;have r3:=cI.out.frozen 0;have r4:=cI.out.frozen 1;simp at r1 r2;go_wp2_with fail;generalize hw8:(w7.setCell ⟨w.heap.size+1+1+1,0,none⟩ (.bool bJ)).setCell ⟨w.heap.size+1+1+1,1,none⟩ (.slice A7 n7 c7)=w8;have cV:Blk w8 (w.heap.size+1+1) 39 #[.bool ax,.slice A5 n5 c5]:=by rw[<- hw8];exact(gS.out.far Gf _).far Gf _
 have dD:Blk w8 (w.heap.size+1+1+1) 39 #[.bool bJ,.slice A7 n7 c7]:=by rw[<- hw8];exact(cI.out.set_ 0 _).set_ 1 _
 have dE:Below w.heap.size w w8:=by rw[<- hw8];exact(aU.setCell (p:=⟨w.heap.size+1+1+1,0,none⟩) Gf _).setCell (p:=⟨w.heap.size+1+1+1,1,none⟩) Gf _
 have fX:Wd w8 ax A5 n5 c5 ZQ:=by
  rw[<- hw8];have fW:=fV.below az;exact⟨fW.1,fW.2.1,Lim.set_box (Lim.set_box fW.2.2 cI.out (NoLimb.box _ _ _ _) 0 _) (cI.out.set_ 0 _) (NoLimb.box _ _ _ _) 1 _⟩
 have gu:Wd w8 bJ A7 n7 c7 ZR:=by
  rw[<- hw8];exact⟨gj.1,gj.2.1,Lim.set_box (Lim.set_box gj.2.2 cI.out (NoLimb.box _ _ _ _) 0 _) (cI.out.set_ 0 _) (NoLimb.box _ _ _ _) 1 _⟩
 have s1:=cV.cell 0;have s2:=cV.cell 1;have s3:=cV.frozen 0;have s4:=cV.frozen 1;have s5:=dD.cell 0;have s6:=dD.cell 1;have s7:=dD.frozen 0;have s8:=dD.frozen 1;simp at s1 s2 s5 s6;replace cV:=Zd cV;replace dD:=Zd dD;clear hw8 r1 r2 r3 r4
 go_region
 go_wp2
 generalize hw9:((((w8.setCell ⟨w.heap.size+1+1,0,none⟩ (.bool ax)).setCell ⟨w.heap.size+1+1,1,none⟩ (.slice A5 n5 c5)).setCell ⟨w.heap.size+1+1+1,0,none⟩ (.bool bJ)).setCell ⟨w.heap.size+1+1+1,1,none⟩ (.slice A7 n7 c7)).drew=w9;have b1:=(cV.out.set_ 0 (.bool ax)).set_ 1 (.slice A5 n5 c5);have b2:=(dD.out.far (p:=⟨w.heap.size+1+1,0,none⟩) Gf (.bool ax)).far (p:=⟨w.heap.size+1+1,1,none⟩) Gf (.slice A5 n5 c5);have b3:Blk w9 (w.heap.size+1+1) 39 #[.bool ax,.slice A5 n5 c5]:=by rw[<- hw9];exact(b1.far Gf _).far Gf _
 have b4:Blk w9 (w.heap.size+1+1+1) 39 #[.bool bJ,.slice A7 n7 c7]:=by rw[<- hw9];exact(b2.set_ 0 _).set_ 1 _
 have ct:Below w.heap.size w w9:=by rw[<- hw9];exact Zh ((((dE.setCell (p:=⟨w.heap.size+1+1,0,none⟩) Gf _).setCell (p:=⟨w.heap.size+1+1,1,none⟩) Gf _).setCell (p:=⟨w.heap.size+1+1+1,0,none⟩) Gf _).setCell (p:=⟨w.heap.size+1+1+1,1,none⟩) Gf _) 1
 have cE:∀ (A:Option Addr) (n c:Nat) (l:List Nat),Lim w8 A n c l->Lim w9 A n c l:=λA n c l h=>by
  rw[<- hw9];exact Lim.set_box (Lim.set_box (Lim.set_box (Lim.set_box h cV.out (NoLimb.box _ _ _ _) 0 _) (cV.out.set_ 0 _) (NoLimb.box _ _ _ _) 1 _) b2 (NoLimb.box _ _ _ _) 0 _) (b2.set_ 0 _) (NoLimb.box _ _ _ _) 1 _
 have t1:=b3.cell 0;have t2:=b3.cell 1;have t3:=b4.cell 0;have t4:=b4.cell 1;simp at t1 t2 t3 t4;refine bodyPost_ret (v:=.tuple #[.agg #[.bool ax,.slice A5 n5 c5],.agg #[.bool bJ,.slice A7 n7 c7],.int .i64 0]) (by simp[results,Tryz.results184,go_sem,t1,t2,t3,t4]) rfl ?_;exact hfin.out _ _ ⟨ct,_,_,_,_,_,_,_,_,rfl,⟨fX.1,fX.2.1,cE _ _ _ _ fX.2.2⟩,⟨gu.1,gu.2.1,cE _ _ _ _ gu.2.2⟩⟩):G:=h
theorem CX{G:Prop}(h:G:=by
 have:=WL.two (neg:=na) (neg':=nb) ((((aS.alloc X).alloc Y).alloc Z).alloc V) ((((aG.alloc X).alloc Y).alloc Z).alloc V) t;exact Et):G:=h
theorem Ce{G:Prop}(h:G:=by
 clear bu q1 q2 q3 q4 cD;refine(Zcb _ _ _ _ _ _ ev).mono ?_;rintro e w7 ⟨az,bJ,A7,n7,c7,ic,rfl,eT⟩;have aU:Below w.heap.size w w7:=Gs aM az;have gS:Hid (Blk w7 (w.heap.size+1+1) 39 #[.bool ax,.slice A5 n5 c5]):=Ze az gQ.out;have cI:Hid (Blk w7 (w.heap.size+1+1+1) 39 #[.bool false,.slice none 0 0]):=Ze az gV.out;rw[Zk,<- cQ.out]at eT;exact Ez):G:=h
theorem Cj{G:Prop}(h:G:=by
 have:=Blk.new (((w.alloc (.cells #[.bool na,.slice A n c] 39)).alloc (.cells #[.bool nb,.slice B m d] 39)).alloc (.cells #[.bool false,.slice none 0 0] 39)) 39 #[.bool false,.slice none 0 0];exact Et):G:=h
theorem Zsq(na nb:Bool)(A B:Option Addr)(n c m d:Nat)(za zb:Int)(w:World)(ha:Wd w na A n c za)(hb:Wd w nb B m d zb)(h0:zb≠0)(hy:za.natAbs%zb.natAbs=0) :
    Calls Tryz.prog 184 #[.agg #[.bool na,.slice A n c],.agg #[.bool nb,.slice B m d]] w (Zke w za zb):=by
 have aS:=ha.lim;have aG:=hb.lim;have hn:=ha.2.1;have hm:=hb.2.1;have b0:=aG.2.2.1;have d7:=aG.2.1;unfold maxLen at b0;have a0:∀ X Y Z V U:Obj,Below w.heap.size w (((((w.alloc X).alloc Y).alloc Z).alloc V).alloc U):=λX Y Z V U=>(((((Qb w.heap.size w).alloc (Qa _) _).alloc Gh _).alloc Gg _).alloc Gg _).alloc Gg _
 have hW:∀ X Y Z V t,WL (((((w.alloc X).alloc Y).alloc Z).alloc V).alloc (.cells #[.bool na,.slice A n c,.bool nb,.slice B m d] t)) (some ⟨w.heap.size+1+1+1+1,0,none⟩) 2 2 [⟨na,A,n,c,digits za.natAbs⟩,⟨nb,B,m,d,digits zb.natAbs⟩]:=λX Y Z V t=>by
  exact CX
 have hW:=Zd hW;have a0:=Zd a0;have O:Hid (okW na (digits za.natAbs)=true/\okW nb (digits zb.natAbs)=true):=⟨ha.ok,hb.ok⟩;have T:=ha.sgEq;have a2:=hb.sgEq;rw[Zk]at T a2;have hU:=ha.small;have hV:=hb.small;clear ha hb;have I:0<zb.natAbs:=Gk;have d4:0<m:=by rw[<- aG.len];exact length_digits_pos.2 I
 have c8:((m:Int) == 0)=false:=by simp;omega
 obtain⟨o,cQ⟩:=Zh9 na nb za.natAbs zb.natAbs I (Or.inl hy);rw[T,a2]at o cQ;clear T a2 h0;generalize za.natAbs=U at *;generalize zb.natAbs=V at *;have a3:(sg (na != nb) (U/V)).natAbs<pw 4096:=by rw[Zaa];exact Qr (Qo _ _) hU
 have dV:(sg nb (U%V)).natAbs<pw 4096:=by rw[Zaa];exact Qq (Qc _ I) hV
 rw[<- o]at a3;rw[<- cQ]at dV;have hfin:Hid (∀ (e:Ending) (w':World),(Below w.heap.size w w'/\∃ nq Aq kq cq nr Ar kr cr,e=.returned (.tuple #[.agg #[.bool nq,.slice Aq kq cq],.agg #[.bool nr,.slice Ar kr cr],.int .i64 0])/\Wd w' nq Aq kq cq (Qd za zb)/\Wd w' nr Ar kr cr (Qe za zb))->Zke w za zb e w'):=λ_ _ h=>h;generalize Qd za zb=ZQ at *;generalize Qe za zb=ZR at *;replace o:=Zd o;replace cQ:=Zd cQ;replace hy:=Zd hy;go_in;go_wp2_with fail;refine(Zdo (hW.out _ _ _ _ _) (by have:=O.out;simp[WE.ok,this])).mono ?_;rintro e w1 ⟨rfl,y⟩;obtain⟨u,c3⟩:=Zc1 y;have d3:w.heap.size+1+1+1+1<w1.heap.size:=by have:=y.size;simp at this;omega
 have C:Below w.heap.size w w1:=(a0.out _ _ _ _ _).trans (y.mono Gg);have g0:w1.cell? ⟨w.heap.size,0,none⟩=some (.bool na):=by simp[u,go_sem]
 have g1:w1.cell? ⟨w.heap.size,1,none⟩=some (.slice A n c):=by simp[u,go_sem]
 have g2:w1.cell? ⟨w.heap.size+1,0,none⟩=some (.bool nb):=by simp[u,go_sem]
 have g3:w1.cell? ⟨w.heap.size+1,1,none⟩=some (.slice B m d):=by simp[u,go_sem]
 have bq:Hid (Blk w1 (w.heap.size+1+1) 39 #[.bool false,.slice none 0 0]):=by
  refine Ze y (Blk.alloc (Blk.alloc ?_ _) _);exact Ev
 have br:Hid (Blk w1 (w.heap.size+1+1+1) 39 #[.bool false,.slice none 0 0]):=by
  refine Ze y (Blk.alloc ?_ _);exact Cj
 have a4:=aS.below C;have a7:=aG.below C;clear u c3;go_wp2_with fail;refine(Zg6 _ _ _ _ _ _ U V _ a4 a7 Gk I).mono ?_;rintro e w2 ⟨A2,n2,c2,B2,m2,d2,rfl,a8,aV,f⟩;have a6:Below w.heap.size w w2:=Gs C f;have a5:=aV.2.2.1;have c6:=aV.2.1;unfold maxLen at a5;have b9:=Zc f g0;have c0:=Zc f g1;have c1:=Zc f g2;have c4:=Zc f g3;have a9:Hid (Blk _ _ _ _):=Ze f bq.out;have b5:Hid (Blk _ _ _ _):=Ze f br.out
 have b6:m2=0:=by
  exact IW
 subst b6;go_wp2_with fail;refine(Zcb _ _ _ _ _ _ a8).mono ?_;rintro e w5 ⟨ao,ax,A5,n5,c5,a1,rfl,J⟩;have b8:Below w.heap.size w w5:=Gs a6 ao;have c9:=Zc ao b9;have d0:=Zc ao c0;have d6:=Zc ao c1;have d5:=Zc ao c4;have aF:Hid (Blk _ _ _ _):=Ze ao a9.out;have b7:Hid (Blk _ _ _ _):=Ze ao b5.out;change ResP w5 (sg (na != nb) _) ax A5 n5 c5 a1 at J;rw[Zk,<- o.out]at J;rcases J with ⟨-,rfl,cD⟩|⟨bC,-⟩
 case inr=>exact absurd a3 Gk
 have q1:=aF.out.cell 0;have q2:=aF.out.cell 1;have q3:=aF.out.frozen 0;have q4:=aF.out.frozen 1;simp at q1 q2;go_wp2_with fail;generalize bu:(w5.setCell ⟨w.heap.size+1+1,0,none⟩ (.bool ax)).setCell ⟨w.heap.size+1+1,1,none⟩ (.slice A5 n5 c5)=w6;have gQ:Hid (Blk w6 (w.heap.size+1+1) 39 #[.bool ax,.slice A5 n5 c5]):=by rw[<- bu];exact(aF.out.set_ 0 _).set_ 1 _
 have gV:Hid (Blk w6 (w.heap.size+1+1+1) 39 #[.bool false,.slice none 0 0]):=by rw[<- bu];exact(b7.out.far Gf _).far Gf _
 have aM:Below w.heap.size w w6:=by rw[<- bu];exact(b8.setCell (p:=⟨w.heap.size+1+1,0,none⟩) Gf _).setCell (p:=⟨w.heap.size+1+1,1,none⟩) Gf _
 have fV:Wd w6 ax A5 n5 c5 ZQ:=by
  exact Fo
 have ev:Lim w6 B2 0 d2 (digits (U%V)):=by
  exact Iq
 exact Ce
theorem CV{G:Prop}(h:G:=by
 have:=Blk.new (((w.alloc (.cells #[.bool na,.slice A n c] 39)).alloc (.cells #[.bool na,.slice B m d] 39)).alloc (.cells #[.bool false,.slice none 0 0] 39)) 39 #[.bool false,.slice none 0 0];exact Et):G:=h
theorem Ztn(na nb:Bool)(A B:Option Addr)(n c m d:Nat)(za zb:Int)(w:World)(ha:Wd w na A n c za)(hb:Wd w nb B m d zb)(h0:zb≠0)(hy:0<za.natAbs%zb.natAbs)(hs:na=nb) :
    Calls Tryz.prog 184 #[.agg #[.bool na,.slice A n c],.agg #[.bool nb,.slice B m d]] w (Zke w za zb):=by
 have aS:=ha.lim;have aG:=hb.lim;have hn:=ha.2.1;have hm:=hb.2.1;have b0:=aG.2.2.1;have d9:=aG.2.1;unfold maxLen at b0;have a0:∀ X Y Z V U:Obj,Below w.heap.size w (((((w.alloc X).alloc Y).alloc Z).alloc V).alloc U):=λX Y Z V U=>(((((Qb w.heap.size w).alloc (Qa _) _).alloc Gh _).alloc Gg _).alloc Gg _).alloc Gg _
 have hW:∀ X Y Z V t,WL (((((w.alloc X).alloc Y).alloc Z).alloc V).alloc (.cells #[.bool na,.slice A n c,.bool nb,.slice B m d] t)) (some ⟨w.heap.size+1+1+1+1,0,none⟩) 2 2 [⟨na,A,n,c,digits za.natAbs⟩,⟨nb,B,m,d,digits zb.natAbs⟩]:=λX Y Z V t=>by
  exact CX
 have hW:=Zd hW;have a0:=Zd a0;have O:Hid (okW na (digits za.natAbs)=true/\okW nb (digits zb.natAbs)=true):=⟨ha.ok,hb.ok⟩;have T:=ha.sgEq;have a1:=hb.sgEq;rw[Zk]at T a1;have hU:=ha.small;have hV:=hb.small;clear ha hb;have I:0<zb.natAbs:=Gk;have d5:0<m:=by rw[<- aG.len];exact length_digits_pos.2 I
 have c9:((m:Int) == 0)=false:=by simp;omega
 obtain⟨o,cQ⟩:=Zh9 na nb za.natAbs zb.natAbs I (Or.inr hs);rw[T,a1]at o cQ;clear T a1 h0;generalize za.natAbs=U at *;generalize zb.natAbs=V at *;have a2:(sg (na != nb) (U/V)).natAbs<pw 4096:=by rw[Zaa];exact Qr (Qo _ _) hU
 have dV:(sg nb (U%V)).natAbs<pw 4096:=by rw[Zaa];exact Qq (Qc _ I) hV
 rw[<- o]at a2;rw[<- cQ]at dV;have hfin:Hid (∀ (e:Ending) (w':World),(Below w.heap.size w w'/\∃ nq Aq kq cq nr Ar kr cr,e=.returned (.tuple #[.agg #[.bool nq,.slice Aq kq cq],.agg #[.bool nr,.slice Ar kr cr],.int .i64 0])/\Wd w' nq Aq kq cq (Qd za zb)/\Wd w' nr Ar kr cr (Qe za zb))->Zke w za zb e w'):=λ_ _ h=>h;generalize Qd za zb=ZQ at *;generalize Qe za zb=ZR at *;replace o:=Zd o;replace cQ:=Zd cQ;subst hs;have c4:(na != na)=false:=Gh
 go_in;go_wp2_with fail;refine(Zdo (hW.out _ _ _ _ _) (by have:=O.out;simp[WE.ok,this])).mono ?_;rintro e w1 ⟨rfl,y⟩;obtain⟨u,c3⟩:=Zc1 y;have d4:w.heap.size+1+1+1+1<w1.heap.size:=by have:=y.size;simp at this;omega
 have C:Below w.heap.size w w1:=(a0.out _ _ _ _ _).trans (y.mono Gg);have g0:w1.cell? ⟨w.heap.size,0,none⟩=some (.bool na):=by simp[u,go_sem]
 have g1:w1.cell? ⟨w.heap.size,1,none⟩=some (.slice A n c):=by simp[u,go_sem]
 have g2:w1.cell? ⟨w.heap.size+1,0,none⟩=some (.bool na):=by simp[u,go_sem]
 have g3:w1.cell? ⟨w.heap.size+1,1,none⟩=some (.slice B m d):=by simp[u,go_sem]
 have bq:Hid (Blk w1 (w.heap.size+1+1) 39 #[.bool false,.slice none 0 0]):=by
  refine Ze y (Blk.alloc (Blk.alloc ?_ _) _);exact Cg
 have br:Hid (Blk w1 (w.heap.size+1+1+1) 39 #[.bool false,.slice none 0 0]):=by
  refine Ze y (Blk.alloc ?_ _);exact CV
 have a4:=aS.below C;have a7:=aG.below C;clear u c3;go_wp2_with fail;refine(Zg6 _ _ _ _ _ _ U V _ a4 a7 Gk I).mono ?_;rintro e w2 ⟨A2,n2,c2,B2,m2,d2,rfl,a8,aV,f⟩;have a6:Below w.heap.size w w2:=Gs C f;have a5:=aV.2.2.1;have c8:=aV.2.1;unfold maxLen at a5;have b8:=Zc f g0;have c0:=Zc f g1;have c1:=Zc f g2;have c6:=Zc f g3;have a9:Hid (Blk _ _ _ _):=Ze f bq.out;have b5:Hid (Blk _ _ _ _):=Ze f br.out;have d6:0<m2:=by rw[<- aV.len];exact length_digits_pos.2 hy
 go_wp2_with fail;refine(Zcb _ _ _ _ _ _ a8).mono ?_;rintro e w5 ⟨ao,ax,A5,n5,c5,b9,rfl,a3⟩;have b7:Below w.heap.size w w5:=Gs a6 ao;have d0:=Zc ao b8;have d3:=Zc ao c0;have d8:=Zc ao c1;have d7:=Zc ao c6;have aF:Hid (Blk _ _ _ _):=Ze ao a9.out;have b6:Hid (Blk _ _ _ _):=Ze ao b5.out;have J:=o.out;rw[c4]at J;rw[Zk,<- J]at a3;rcases a3 with ⟨-,rfl,cD⟩|⟨bC,-⟩
 case inr=>exact absurd a2 Gk
 have q1:=aF.out.cell 0;have q2:=aF.out.cell 1;have q3:=aF.out.frozen 0;have q4:=aF.out.frozen 1;simp at q1 q2;go_wp2_with fail;generalize bu:(w5.setCell ⟨w.heap.size+1+1,0,none⟩ (.bool ax)).setCell ⟨w.heap.size+1+1,1,none⟩ (.slice A5 n5 c5)=w6;have gQ:Hid (Blk w6 (w.heap.size+1+1) 39 #[.bool ax,.slice A5 n5 c5]):=by rw[<- bu];exact(aF.out.set_ 0 _).set_ 1 _
 have gV:Hid (Blk w6 (w.heap.size+1+1+1) 39 #[.bool false,.slice none 0 0]):=by rw[<- bu];exact(b6.out.far Gf _).far Gf _
 have aM:Below w.heap.size w w6:=by rw[<- bu];exact(b7.setCell (p:=⟨w.heap.size+1+1,0,none⟩) Gf _).setCell (p:=⟨w.heap.size+1+1,1,none⟩) Gf _
 have fV:Wd w6 ax A5 n5 c5 ZQ:=by
  exact Fo
 have ev:Lim w6 B2 m2 d2 (digits (U%V)):=by
  exact Iq
 exact Ce
theorem FO{G:Prop}(h:G:=by
 rw[Zaa];have h1:=Nat.div_add_mod U V;have h2:=Nat.mod_lt U bZ;rcases Nat.lt_or_ge 1 V with h|h
 ·have:U/V+U/V<=V*(U/V):=by rw[<- Nat.two_mul];exact Nat.mul_le_mul_right _ h
  omega
 omega):G:=h
theorem Zqo(na nb:Bool)(A B:Option Addr)(n c m d:Nat)(za zb:Int)(w:World)(ha:Wd w na A n c za)(hb:Wd w nb B m d zb)(h0:zb≠0)(hy:0<za.natAbs%zb.natAbs)(hs:na≠nb) :
    Calls Tryz.prog 184 #[.agg #[.bool na,.slice A n c],.agg #[.bool nb,.slice B m d]] w (Zke w za zb):=by
 have aS:=ha.lim;have aG:=hb.lim;have hn:=ha.2.1;have hm:=hb.2.1;have g6:=aG.2.2.1;have i5:=aG.2.1;unfold maxLen at g6;have b0:∀ X Y Z V U:Obj,Below w.heap.size w (((((w.alloc X).alloc Y).alloc Z).alloc V).alloc U):=λX Y Z V U=>(((((Qb w.heap.size w).alloc (Qa _) _).alloc Gh _).alloc Gg _).alloc Gg _).alloc Gg _
 have hW:∀ X Y Z V t,WL (((((w.alloc X).alloc Y).alloc Z).alloc V).alloc (.cells #[.bool na,.slice A n c,.bool nb,.slice B m d] t)) (some ⟨w.heap.size+1+1+1+1,0,none⟩) 2 2 [⟨na,A,n,c,digits za.natAbs⟩,⟨nb,B,m,d,digits zb.natAbs⟩]:=λX Y Z V t=>by
  exact CX
 have hW:=Zd hW;have b0:=Zd b0;have a4:Hid (okW na (digits za.natAbs)=true/\okW nb (digits zb.natAbs)=true):=⟨ha.ok,hb.ok⟩;have a9:=ha.sgEq;have a5:=hb.sgEq;rw[Zk]at a9 a5;have hU:=ha.small;have hV:=hb.small;clear ha hb;have bZ:0<zb.natAbs:=Gk;have i6:0<m:=by rw[<- aG.len];exact length_digits_pos.2 bZ
 have i1:((m:Int) == 0)=false:=by simp;omega
 obtain⟨C,J⟩:=Zo1 na nb za.natAbs zb.natAbs bZ hy hs;rw[a9,a5]at C J;clear a9 a5 h0;generalize za.natAbs=U at *;generalize zb.natAbs=V at *
 have b6:(sg (na != nb) (U/V+1)).natAbs<pw 4096:=by
  exact FO
 have dV:(sg nb (V-U%V)).natAbs<pw 4096:=by rw[Zaa];omega
 rw[<- C]at b6;rw[<- J]at dV;have hfin:Hid (∀ (e:Ending) (w':World),(Below w.heap.size w w'/\∃ nq Aq kq cq nr Ar kr cr,e=.returned (.tuple #[.agg #[.bool nq,.slice Aq kq cq],.agg #[.bool nr,.slice Ar kr cr],.int .i64 0])/\Wd w' nq Aq kq cq (Qd za zb)/\Wd w' nr Ar kr cr (Qe za zb))->Zke w za zb e w'):=λ_ _ h=>h;generalize Qd za zb=ZQ at *;generalize Qe za zb=ZR at *;replace C:=Zd C;replace J:=Zd J;have I:(na != nb)=true:=by simpa using hs
 have j0:(na == nb)=false:=by simpa using hs
 replace I:=Zd I;go_in;go_wp2_with fail;refine(Zdo (hW.out _ _ _ _ _) (by have:=a4.out;simp[WE.ok,this])).mono ?_;rintro e w1 ⟨rfl,O⟩;obtain⟨a0,h8⟩:=Zc1 O;have i9:w.heap.size+1+1+1+1<w1.heap.size:=by have:=O.size;simp at this;omega
 have a1:Below w.heap.size w w1:=(b0.out _ _ _ _ _).trans (O.mono Gg);have g0:w1.cell? ⟨w.heap.size,0,none⟩=some (.bool na):=by simp[a0,go_sem]
 have g1:w1.cell? ⟨w.heap.size,1,none⟩=some (.slice A n c):=by simp[a0,go_sem]
 have g2:w1.cell? ⟨w.heap.size+1,0,none⟩=some (.bool nb):=by simp[a0,go_sem]
 have g3:w1.cell? ⟨w.heap.size+1,1,none⟩=some (.slice B m d):=by simp[a0,go_sem]
 have bq:Hid (Blk w1 (w.heap.size+1+1) 39 #[.bool false,.slice none 0 0]):=by
  refine Ze O (Blk.alloc (Blk.alloc ?_ _) _);exact Ev
 have br:Hid (Blk w1 (w.heap.size+1+1+1) 39 #[.bool false,.slice none 0 0]):=by
  refine Ze O (Blk.alloc ?_ _);exact Cj
 have d0:=aS.below a1;have c6:=aG.below a1;clear a0 h8;go_wp2_with fail;refine(Zg6 _ _ _ _ _ _ U V _ d0 c6 Gk bZ).mono ?_;rintro e w2 ⟨A2,n2,c2,B2,m2,d2,rfl,c9,T,y⟩;have a7:Below w.heap.size w w2:=Gs a1 y;have d4:=T.2.2.1;have i0:=T.2.1;unfold maxLen at d4;have g8:=Zc y g0;have h6:=Zc y g1;have h7:=Zc y g2;have e6:=Zc y g3;have h4:Hid (Blk _ _ _ _):=Ze y bq.out;have e9:Hid (Blk _ _ _ _):=Ze y br.out;have i7:0<m2:=by rw[<- T.len];exact length_digits_pos.2 hy
 have c8:m2<=m:=by have:=Z6 (Ql (Qc U bZ));rw[T.len,aG.len]at this;exact this
 have h9:n2<=n:=by have:=Z6 (Qo U V);rw[c9.len,aS.len]at this;exact this
 have b8:∀ t,Lim (w2.alloc (.cells #[limb 1] t)) (some ⟨w2.heap.size,0,none⟩) 1 1 [1]:=λt=>by
  have:=Lim.of_blk (l:=[1]) (Blk.new w2 t (Z4 [1])) (Lt32.cons Gj Lt32.nil) (by simp[maxLen]);exact this
 have f7:=Zd b8;clear b8;go_wp2_with fail;refine(Zs3 _ _ _ _ _ _ _ _ _ (c9.alloc _) (f7.out _) Gk Gk).mono ?_;rintro e w3 ⟨A3,n3,c3,l3,rfl,e1,d3,b9⟩;have f:Below w2.heap.size w2 w3:=((Qb w2.heap.size w2).alloc (Qa _) _).trans (b9.mono Gh);have b5:Below w.heap.size w w3:=Gs a7 f;have a8:=d3.2;replace a8:=Zd a8;clear d3;have g9:=Zc f g8;have h5:=Zc f h6;have e3:=Zc f h7;have h3:=Zc f e6;have f3:Hid (Blk _ _ _ _):=Ze f h4.out;have f0:Hid (Blk _ _ _ _):=Ze f e9.out;have d5:=(aG.below a7).below f;have d9:=T.below f;have a3:val (digits (U%V))<=val (digits V):=by rw[Zk,Zk];exact Ql (Qc U bZ)
 go_wp2_with fail;refine(Zkx _ _ _ _ _ _ _ _ _ d5 d9 c8 a3 Gk).mono ?_;rintro e w4 ⟨A4,n4,c4,l4,rfl,e0,c0,u⟩;have b7:Below w.heap.size w w4:=Gs b5 u;have a6:=c0.2;replace a6:=Zd a6;clear c0 a3;have d7:=e1.below u;have e8:=Zc u g9;have e7:=Zc u h5;have f6:=Zc u e3;have f9:=Zc u h3;have e4:Hid (Blk _ _ _ _):=Ze u f3.out;have e5:Hid (Blk _ _ _ _):=Ze u f0.out;go_wp2_with fail;refine(Zcb _ _ _ _ _ _ d7).mono ?_;rintro e w5 ⟨o,ax,A5,n5,c5,f8,rfl,d6⟩;have g7:Below w.heap.size w w5:=Gs b7 o;have i2:=Zc o e8;have i3:=Zc o e7;have i4:=Zc o f6;have i8:=Zc o f9;have aF:Hid (Blk _ _ _ _):=Ze o e4.out;have e2:Hid (Blk _ _ _ _):=Ze o e5.out;have f4:val l4=V-U%V:=by have:=a6.out;rw[Zk,Zk]at this;omega
 have a2:=C.out;rw[I.out]at a2;rw[a8.out,Zk,show val [1]=1 from rfl,<- a2]at d6;rcases d6 with ⟨-,rfl,cD⟩|⟨bC,-⟩
 case inr=>exact absurd b6 Gk
 have q1:=aF.out.cell 0;have q2:=aF.out.cell 1;have q3:=aF.out.frozen 0;have q4:=aF.out.frozen 1;simp at q1 q2;go_wp2_with fail;generalize bu:(w5.setCell ⟨w.heap.size+1+1,0,none⟩ (.bool ax)).setCell ⟨w.heap.size+1+1,1,none⟩ (.slice A5 n5 c5)=w6;have g5:Hid (Blk w6 (w.heap.size+1+1) 39 #[.bool ax,.slice A5 n5 c5]):=by rw[<- bu];exact(aF.out.set_ 0 _).set_ 1 _
 have g4:Hid (Blk w6 (w.heap.size+1+1+1) 39 #[.bool false,.slice none 0 0]):=by rw[<- bu];exact(e2.out.far Gf _).far Gf _
 have c1:Below w.heap.size w w6:=by rw[<- bu];exact(g7.setCell (p:=⟨w.heap.size+1+1,0,none⟩) Gf _).setCell (p:=⟨w.heap.size+1+1,1,none⟩) Gf _
 have fV:Wd w6 ax A5 n5 c5 ZQ:=by
  exact Fo
 have d8:Lim w6 A4 n4 c4 l4:=by
  rw[<- bu];exact Lim.set_box (Lim.set_box (e0.below o) aF.out (NoLimb.box _ _ _ _) 0 _) (aF.out.set_ 0 _) (NoLimb.box _ _ _ _) 1 _
 clear bu q1 q2 q3 q4 cD;refine(Zcb _ _ _ _ _ _ d8).mono ?_;rintro e w7 ⟨az,bJ,A7,n7,c7,f5,rfl,eT⟩;have aU:Below w.heap.size w w7:=Gs c1 az;have gS:Hid (Blk w7 (w.heap.size+1+1) 39 #[.bool ax,.slice A5 n5 c5]):=Ze az g5.out;have cI:Hid (Blk w7 (w.heap.size+1+1+1) 39 #[.bool false,.slice none 0 0]):=Ze az g4.out;rw[f4,<- J.out]at eT;exact Ez
theorem Zgb(na nb:Bool)(A B:Option Addr)(n c m d:Nat)(za zb:Int)(w:World)(ha:Wd w na A n c za)(hb:Wd w nb B m d zb)(h0:zb≠0) :
    Calls Tryz.prog 184 #[.agg #[.bool na,.slice A n c],.agg #[.bool nb,.slice B m d]] w (Zke w za zb):=by
 rcases Nat.eq_zero_or_pos (za.natAbs%zb.natAbs)with hy|hy;exact Zsq na nb A B n c m d za zb w ha hb h0 hy;by_cases hs:na=nb;exact Ztn na nb A B n c m d za zb w ha hb h0 hy hs;exact Zqo na nb A B n c m d za zb w ha hb h0 hy hs
theorem Fs{G:Prop}(h:G:=by
 go_in
 go_wp2
 go_ret;exact⟨rfl,(Below.refl _ _).alloc (Nat.le_refl _) _⟩):G:=h
theorem Zm1(neg:Bool)(A:Option Addr)(n c:Nat)(l:List Nat)(w:World)(h:Lim w A n c l) :
    Calls Tryz.prog 29 #[.agg #[.bool neg,.slice A n c]] w λe w'=>e=.returned (.int .i64 (Zfq (okW neg l)))/\Below w.heap.size w w':=by
 have y:=h.2.1;have o:=h.2.2.1;unfold maxLen at o;have HLen:=Zd h.len;by_cases t1:n<=4096
 ·by_cases t2:0<n
  ·obtain⟨b1,o1,rfl,hx⟩:=h.at_ (k:=n-1) Gk
   have C:=Zp hx;have u:((n:Int) == 0)=false:=by simp;omega
   by_cases t3:l[n-1]?.getD 0=0
   ·have f:(((l[n-1]?.getD 0:Nat):Int) == 0)=true:=by simp[t3]
    rw[Zse (by rw[HLen.out];exact t2) (by rw[HLen.out];exact t3)];clear t3 h;exact Fs
   have f:(((l[n-1]?.getD 0:Nat):Int) == 0)=false:=by simpa using t3
   rw[Z0f (by rw[HLen.out];exact t2) (by rw[HLen.out];exact t1) (by rw[HLen.out];exact t3)];clear t3 h;cases neg
   all_goals
    exact Fs
  obtain rfl:n=0:=Gk;rw[Zpz HLen.out];clear h;cases neg
  all_goals
   exact Fs
 rw[Zwc (by rw[HLen.out];omega)];clear h;exact Fs
theorem FQ{G:Prop}(h:G:=by
 go_ret;exact OutL.of_append aE (by rw[List.length_take,h.len];omega) (h.lt.take _) ((Below.refl _ _).alloc (Nat.le_refl _) _) cN (λj hj=>by simp[Value.ownBlock]at hj;omega) HD.out.symm):G:=h
theorem Zec(A:Option Addr)(n c:Nat)(l:List Nat)(w:World)(h:Lim w A n c l)(hn9:n<=1000000000) :
    Calls Tryz.prog 123 #[.slice A n c] w (OutL w λl'=>l'=digits (val l)):=by
 obtain⟨i0,hi,u,y,e⟩:=info_parts Zdn;have hn:=h.2.1;have hm:=h.2.2.1;unfold maxLen at hm;go_in
 go_wp2
 go_loop [3] (λv=>∃ k:Nat,k<=n/\v=.int .i64 k/\Hid (∀ j,k<=j->l[j]?.getD 0=0)) (λv=>(intOf v).toNat)
 case atStart=>exact⟨n,Qa _,rfl,λj hj=>by rw[List.getElem?_eq_none (by rw[h.len];exact hj)];rfl⟩
 case round =>
  obtain⟨k,hk,rfl,hz⟩:=hrel;by_cases hk0:0<k
  ·obtain⟨b,o,rfl,C⟩:=h.at_ (k:=k-1) Gk
   by_cases hx:l[k-1]?.getD 0=0;exact Fp;have hb:(((l[k-1]?.getD 0:Nat):Int) == 0)=false:=by simpa using hx
   have HD:=Zd (Zgw hz.out (Or.inr hx) h.lt);clear hx;go_wp2_with (at_builtin;refine Zx _ rfl (.tmp 18) (.tmp 21) 37 rfl w.heap.size 106 i0 _ 1 4 Tryz.underlying37 hi u y e rfl Gk (.slice (some ⟨w.heap.size,0,none⟩) 0 0) 0 [] rfl (Zlc _ _ _) _ _ k c ((l.take k).map limb) rfl (by exact((h.take hk).alloc _).reads) (Zem _) (by simp only[maxLen];omega) Gk Gh ?_;intro v1 w1 aE cN f);exact FQ
  obtain rfl:k=0:=Gk;have HD:=Zd (Zgw hz.out (Or.inl rfl) h.lt);go_wp2_with (at_builtin;refine Zx _ rfl (.tmp 18) (.tmp 21) 37 rfl w.heap.size 106 i0 _ 1 4 Tryz.underlying37 hi u y e rfl Gk (.slice (some ⟨w.heap.size,0,none⟩) 0 0) 0 [] rfl (Zlc _ _ _) _ _ 0 c ((l.take 0).map limb) rfl (by exact((h.take hk).alloc _).reads) (Zem _) (by simp only[maxLen];omega) Gk Gh ?_;intro v1 w1 aE cN f);exact FQ
theorem Zb0(neg:Bool)(A:Option Addr)(n c:Nat)(l:List Nat)(w:World)(h:Lim w A n c l)(hn9:n<=1000000000) :
    Calls Tryz.prog 74 #[.bool neg,.slice A n c] w (ResW w (sg neg (val l))):=by
 have HI:=Zd (Zs (val l) 4096);have HP:=Zd (@length_digits_pos (val l));go_in;go_wp2_with fail;refine(Zec _ _ _ _ _ (h.alloc _) hn9).mono ?_;rintro e w1 ⟨A1,n1,c1,l1,rfl,hL,I,y⟩;subst I;have f:=Zd hL.len;have J:=hL.2.1;have C:=hL.2.2.1;unfold maxLen at C;have u:=Blk.new w 39 #[.bool false,.slice none 0 0];have m7:=Ze y u;have o:Below w.heap.size w w1:=((Qb w.heap.size w).alloc (Qa _) _).trans (y.mono Gh);have m3:=m7.cell 0;have m4:=m7.cell 1;have m5:=m7.frozen 0;have m6:=m7.frozen 1;simp at m3 m4;have HM:=Zd m7;clear m7 u;by_cases h1:n1<=4096
 ·by_cases h2:0<n1
  ·have hd:decide (0<n1)=true:=by simpa using h2
   cases neg
   ·go_wp2_with fail
    refine bodyPost_ret (v:=.tuple #[.agg #[.bool false,.slice A1 n1 c1],.int .i64 0]) (by simp[results,Tryz.results74,go_sem,m3,m4]) rfl ?_;refine ResW.box (.inl ⟨?_,rfl,?_,h1,?_⟩) o (Qa _) HM.out;rw[Zaa];exact HI.out.1 (by rw[f.out];exact h1);rw[Zm8];rfl;rw[Zaa];exact hL
   go_wp2_with fail;refine bodyPost_ret (v:=.tuple #[.agg #[.bool true,.slice A1 n1 c1],.int .i64 0]) (by simp[results,Tryz.results74,go_sem,m3,m4]) rfl ?_;refine ResW.box (.inl ⟨?_,rfl,?_,h1,?_⟩) o (Qa _) HM.out;rw[Zaa];exact HI.out.1 (by rw[f.out];exact h1);rw[Zm8];have:=HP.out.1 (by rw[f.out];exact h2);simp[this];rw[Zaa];exact hL
  obtain rfl:n1=0:=Gk;cases neg
  all_goals
   go_wp2_with fail;refine bodyPost_ret (v:=.tuple #[.agg #[.bool false,.slice A1 0 c1],.int .i64 0]) (by simp[results,Tryz.results74,go_sem,m3,m4]) rfl ?_;refine ResW.box (.inl ⟨?_,rfl,?_,h1,?_⟩) o (Qa _) HM.out;rw[Zaa];exact HI.out.1 (by rw[f.out];exact h1)
   ·rw[Zm8]
    have:¬ 0<val l:=λhh=>by have:=HP.out.2 hh;rw[f.out]at this;omega
    simp[this]
   rw[Zaa];exact hL
 have hp:pw 4096<=val l:=by
   rcases Qg (val l) (pw 4096)with h'|h';have:=HI.out.2 h';rw[f.out]at this;exact absurd this h1;exact h'
 have HPW:=Zd hp;clear hp;go_wp2_with fail;refine bodyPost_ret (v:=.tuple #[.agg #[.bool false,.slice none 0 0],.int .i64 16]) (by simp[results,Tryz.results74,go_sem,m3,m4]) rfl ?_;exact ResW.box (.inr ⟨by rw[Zaa];exact HPW.out,rfl,rfl,rfl,rfl,rfl⟩) o (Qa _) HM.out
theorem Cm{G:Prop}(h:G:=by
 rw[hr];go_in
 go_wp2
 go_ret;exact⟨rfl,Below.refl _ _⟩):G:=h
theorem IQ{G:Prop}(h:G:=by
 go_wp2
 go_quiet (fail)
 go_wp2
 go_ret;exact⟨Zid HR.out.symm,(by first|exact Zh hB _|exact Zh (Zh hB _) _)⟩):G:=h
theorem Zck(A B:Option Addr)(n c m d:Nat)(a b:List Nat)(w:World)(ha:Lim w A n c a)(hb:Lim w B m d b) :
    Calls Tryz.prog 73 #[.slice A n c,.slice B m d] w λe w'=>e=.returned (.int .i64 (Zcm a b))/\Below w.heap.size w w':=by
 have O:=ha.2.1;have U:=hb.2.1;have u:=ha.2.2.1;have y:=hb.2.2.1;unfold maxLen at u y;by_cases h1:n<m
 ·have f:(((n:Nat):Int) != m)=true:=by simp;omega
  have hd:decide (n<m)=true:=by simpa using h1
  have hr:Zcm a b=-1:=by unfold Zcm;rw[ha.len,hb.len,Gx h1]
  exact Cm
 by_cases h2:m<n
 ·have f:(((n:Nat):Int) != m)=true:=by simp;omega
  have hd:decide (n<m)=false:=by simpa using h1
  have hr:Zcm a b=1:=by unfold Zcm;rw[ha.len,hb.len,Gw h1,Gx h2]
  exact Cm
 obtain rfl:n=m:=Gk;have f:(((n:Nat):Int) != n)=false:=Gh
 go_in
 go_wp2
 go_loopw [5] (λiv wr=>∃ k:Nat,k<=n/\iv=.int .i64 ((n:Int)-1-k)/\Hid (∀ j,n-k<=j->j<n->a[j]?.getD 0=b[j]?.getD 0)/\Below w.heap.size w wr) (λiv _=>(intOf iv+1).toNat)
 case atStart=>exact⟨0,Qf _,by go_num,λj h h'=>by omega,Qb _ _⟩
 case round =>
  obtain⟨k,hk,rfl,he,hB⟩:=hrel;by_cases hlt:k<n
  ·obtain⟨ba,oa,rfl,J⟩:=(ha.below hB).at_ (k:=n-1-k) Gk
   obtain⟨bb,ob,rfl,I⟩:=(hb.below hB).at_ (k:=n-1-k) Gk;have T:=Zd ha.len;have V:=Zd hb.len;by_cases t1:a[n-1-k]?.getD 0<b[n-1-k]?.getD 0
   ·have C:decide (a[n-1-k]?.getD 0<b[n-1-k]?.getD 0)=true:=by simpa using t1
    have HR:Hid (Zcm a b=-1):=by
     have:=Zl9 ha.len hb.len ha.lt Gk (λj h h'=>he.out j Gk h') t1;unfold Hid Zcm;rw[ha.len,hb.len];simp[this]
    exact IQ
   have C:decide (a[n-1-k]?.getD 0<b[n-1-k]?.getD 0)=false:=by simpa using t1
   by_cases t2:b[n-1-k]?.getD 0<a[n-1-k]?.getD 0
   ·have o:decide (b[n-1-k]?.getD 0<a[n-1-k]?.getD 0)=true:=by simpa using t2
    have HR:Hid (Zcm a b=1):=by
     have:=Zl9 hb.len ha.len hb.lt Gk (λj h h'=>(he.out j Gk h').symm) t2;unfold Hid Zcm;rw[ha.len,hb.len];simp[this];omega
    go_wp2
    go_quiet (fail)
    exact IQ
   have o:decide (b[n-1-k]?.getD 0<a[n-1-k]?.getD 0)=false:=by simpa using t2
   have HE:Hid (∀ j,n-(k+1)<=j->j<n->a[j]?.getD 0=b[j]?.getD 0):=λj h h'=>by
    rcases Qg j (n-k)with h3|h3
    ·obtain rfl:j=n-1-k:=Gk
     omega
    exact he.out j h3 h'
   go_wp2
   go_quiet (fail)
   go_wp2
   go_quiet (fail)
   go_wp2
   go_roundw
   case rel=>exact⟨k+1,by omega,by go_num,HE,(by first|exact Zh hB _|exact Zh (Zh hB _) _)⟩
   case measure=>simp[intOf];omega
  obtain rfl:k=n:=Gk
  have HR:Hid (Zcm a b=0):=by
   have:=Z0x ha.len hb.len (λj hj=>he.out j Gk hj);unfold Hid;rw[this,Zo3]
  go_wp2
  go_ret;exact⟨Zid HR.out.symm,hB⟩
def Zgf(na nb:Bool)(a b:List Nat):Bool:=(na == nb) && (Zcm a b == 0)
theorem Zc8(na nb:Bool)(A B:Option Addr)(n c m d:Nat)(a b:List Nat)(w:World)(ha:Lim w A n c a)(hb:Lim w B m d b) :
    Calls Tryz.prog 30 #[.agg #[.bool na,.slice A n c],.agg #[.bool nb,.slice B m d]] w λe w'=>e=.returned (.bool (Zgf na nb a b))/\Below w.heap.size w w':=by
 by_cases h:na=nb
 ·subst h
  have hs:Zgf na na a b=(Zcm a b == 0):=by simp[Zgf]
  rw[hs];generalize hx:Zcm a b=x at *;have HX:=Zd hx;clear hx hs;go_in;go_wp2_with (go_at_call 73;refine(Zck _ _ _ _ _ _ _ _ _ ((ha.alloc _).alloc _) ((hb.alloc _).alloc _)).mono ?_;rintro e w1 ⟨he,o⟩;rw[HX.out]at he;subst he);go_ret;exact⟨rfl,(((Qb w.heap.size w).alloc (Qa _) _).alloc Gh _).trans (o.mono Gg)⟩
 have f:(na == nb)=false:=by simpa using h
 have hs:Zgf na nb a b=false:=by simp[Zgf,f]
 rw[hs];clear hs;go_in
 go_wp2
 go_ret;exact⟨rfl,((Qb w.heap.size w).alloc (Qa _) _).alloc Gh _⟩
def RPlus(w:World)(a b:List Nat)(k carry:Nat)(v:Value)(wr:World):Prop:=
 ∃ l,OwnL 106 wr w.heap.size v l/\l.length=k/\carry<=1/\val l+pw k*carry=val (a.take k)+val (b.take k)/\Below w.heap.size w wr
theorem RPlus.step{w w1 wb:World}{a b l:List Nat}{k carry:Nat}{v':Value}{X:Int}{row:Option Nat}(hlen:l.length=k)(hlt:Lt32 l)(hc:carry<=1)
    (hI:val l+pw k*carry=val (a.take k)+val (b.take k)) (hB:Below w.heap.size w wb) (hown:w1.ownsRow w.heap.size 106 1 v' (k+1) (l.map limb ++ [.int .u32 X]))
    (hg:wb.grownBy w1 row) (hr:∀ j,row=some j->w.heap.size<=j) (ha:a[k]?.getD 0<4294967296) (hb:b[k]?.getD 0<4294967296)
    (hX:X=((carry+a[k]?.getD 0+b[k]?.getD 0)%4294967296:Nat)):RPlus w a b (k+1) ((carry+a[k]?.getD 0+b[k]?.getD 0)/4294967296) v' w1:=by
 refine⟨l ++ [(carry+a[k]?.getD 0+b[k]?.getD 0)%4294967296],OwnL.snoc hlen.symm hown hlt hX (Qc _ Gj),by simp[hlen],by omega,?_,hB.grown hg hB.size hr⟩;rw[Zeq,hlen,Zac,Zac,Za6];have e:(carry+a[k]?.getD 0+b[k]?.getD 0)%4294967296+4294967296*((carry+a[k]?.getD 0+b[k]?.getD 0)/4294967296)=carry+a[k]?.getD 0+b[k]?.getD 0:=Nat.mod_add_div _ _;generalize (carry+a[k]?.getD 0+b[k]?.getD 0)%4294967296=s at *;generalize (carry+a[k]?.getD 0+b[k]?.getD 0)/4294967296=q at *;have:pw k*(s+4294967296*q)=pw k*(carry+a[k]?.getD 0+b[k]?.getD 0):=by rw[e]
 grind
theorem RPlus.stop{w w1 wb:World}{a b l:List Nat}{k carry:Nat}{v':Value}{row:Option Nat}(hlen:l.length=k)(hlt:Lt32 l)(hc:carry<=1)
    (hI:val l+pw k*carry=val (a.take k)+val (b.take k)) (hB:Below w.heap.size w wb) (hown:w1.ownsRow w.heap.size 106 1 v' (k+1) (l.map limb ++ [.int .u32 carry]))
    (hg:wb.grownBy w1 row) (hr:∀ j,row=some j->w.heap.size<=j) (ha:a.length<=k) (hb:b.length<=k):OutL w (λl=>l.length=k+1/\val l=val a+val b) (.returned v') w1:=by
 refine OutL.of_own (OwnL.snoc hlen.symm hown hlt rfl Gk) (hB.grown hg hB.size hr) ⟨by simp[hlen],?_⟩;rw[Zeq,hlen,hI,Zad ha,Zad hb]
theorem Zzd(A B:Option Addr)(n c m d:Nat)(a b:List Nat)(w:World)(ha:Lim w A n c a)(hb:Lim w B m d b)(hn9:n<=1000000000)(hm9:m<=1000000000) :
    Calls Tryz.prog 169 #[.slice A n c,.slice B m d] w (OutL w λl=>l.length=max n m+1/\val l=val a+val b):=by
 obtain⟨i0,hi,u,C,I⟩:=info_parts Zdn;have a6:=ha.2.1;have a9:=hb.2.1;have a0:=ha.2.2.1;have a1:=hb.2.2.1;unfold maxLen at a0 a1;have U:=Zd ha.len;have V:=Zd hb.len;obtain⟨N,hN,a7,b0,a4⟩:∃ N,N=max n m/\n<=N/\m<=N/\N<=1000000000:=⟨_,rfl,by omega,by omega,by omega⟩;rw[<- hN];have HN:=Zd hN;clear hN;go_in
 go_wp2
 go_loopw [5,6,7] (λov cv iv wr=>∃ k carry:Nat,k<=N/\cv=.int .u64 carry/\iv=.int .i64 k/\RPlus w a b k carry ov wr) (λ_ _ iv _=>N-(intOf iv).toNat)
 case atStart=>exact⟨0,0,Qf _,rfl,rfl,[],OwnL.nil _ _ _,rfl,by omega,by simp[val],Qb _ _⟩
 case round =>
  obtain⟨k,carry,hk,rfl,rfl,l,e,J,y,hI,hB⟩:=hrel;have HLen:=Zd J;have HI:=Zd hI;clear J hI;have a8:=ha.lt.get k;have a5:=hb.lt.get k;by_cases h1:k<n
  ·obtain⟨ba,oa,rfl,a3⟩:=(ha.below hB).at_ h1
   by_cases h2:k<m
   ·obtain⟨bb,ob,rfl,Y⟩:=(hb.below hB).at_ h2
    go_wp2_with (at_builtin;refine Zx _ rfl (.tmp 42) (.tmp 45) 37 rfl w.heap.size 106 i0 _ 1 4 Tryz.underlying37 hi u C I rfl Gk _ k (l.map limb) rfl (by have:=HLen.out;subst this;exact e.1.alloc _) _ _ 1 1 _ rfl (Zb1 _ _ _) (by simp[Value.oneCell']) (by simp only[maxLen];omega) Gk Gb ?_;intro v1 w1 f h o)
    go_roundw
    case rel=>exact⟨k+1,_,by omega,by rw[show ((carry:Int)+((a[k]?.getD 0:Nat):Int)+((b[k]?.getD 0:Nat):Int))/4294967296=(((carry+a[k]?.getD 0+b[k]?.getD 0)/4294967296:Nat):Int) by omega],by go_num,RPlus.step HLen.out e.2 y HI.out (hB.alloc hB.size _) f h e.row_ge (ha.lt.get k) (hb.lt.get k) Gk⟩
    case measure=>simp[intOf];omega
   have O:=Zd (getD_none (l:=b) (i:=k) (by rw[V.out];omega));go_wp2_with (at_builtin;refine Zx _ rfl (.tmp 42) (.tmp 45) 37 rfl w.heap.size 106 i0 _ 1 4 Tryz.underlying37 hi u C I rfl Gk _ k (l.map limb) rfl (by have:=HLen.out;subst this;exact e.1.alloc _) _ _ 1 1 _ rfl (Zb1 _ _ _) (by simp[Value.oneCell']) (by simp only[maxLen];omega) Gk Gb ?_;intro v1 w1 f h o)
   go_roundw
   case rel=>exact⟨k+1,_,by omega,by rw[O.out];rw[show ((carry:Int)+((a[k]?.getD 0:Nat):Int))/4294967296=(((carry+a[k]?.getD 0+0)/4294967296:Nat):Int) by omega],by go_num,RPlus.step HLen.out e.2 y HI.out (hB.alloc hB.size _) f h e.row_ge (ha.lt.get k) (hb.lt.get k) (by rw[O.out];omega)⟩
   case measure=>simp[intOf];omega
  have T:=Zd (getD_none (l:=a) (i:=k) (by rw[U.out];omega));by_cases h2:k<m
  ·obtain⟨bb,ob,rfl,Y⟩:=(hb.below hB).at_ h2
   go_wp2_with (at_builtin;refine Zx _ rfl (.tmp 42) (.tmp 45) 37 rfl w.heap.size 106 i0 _ 1 4 Tryz.underlying37 hi u C I rfl Gk _ k (l.map limb) rfl (by have:=HLen.out;subst this;exact e.1.alloc _) _ _ 1 1 _ rfl (Zb1 _ _ _) (by simp[Value.oneCell']) (by simp only[maxLen];omega) Gk Gb ?_;intro v1 w1 f h o)
   go_roundw
   case rel=>exact⟨k+1,_,by omega,by rw[T.out];rw[show ((carry:Int)+((b[k]?.getD 0:Nat):Int))/4294967296=(((carry+0+b[k]?.getD 0)/4294967296:Nat):Int) by omega],by go_num,RPlus.step HLen.out e.2 y HI.out (hB.alloc hB.size _) f h e.row_ge (ha.lt.get k) (hb.lt.get k) (by rw[T.out];omega)⟩
   case measure=>simp[intOf];omega
  have a2:=Zd (show k=N by have:=HN.out;omega);go_wp2_with (at_builtin;refine Zx _ rfl (.tmp 49) (.tmp 52) 37 rfl w.heap.size 106 i0 _ 1 4 Tryz.underlying37 hi u C I rfl Gk _ k (l.map limb) rfl (by have:=HLen.out;subst this;exact e.1.alloc _) _ _ 1 1 _ rfl (Zb1 _ _ _) (by simp[Value.oneCell']) (by simp only[maxLen];omega) Gk Gb ?_;intro v1 w1 f h o);go_ret;rw[<- a2.out];exact RPlus.stop HLen.out e.2 y HI.out (hB.alloc hB.size _) f h e.row_ge (by rw[U.out];omega) (by rw[V.out];omega)
