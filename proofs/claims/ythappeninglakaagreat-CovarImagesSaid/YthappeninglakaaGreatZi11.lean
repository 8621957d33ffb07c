/- Package covar: vector, and the search for long rows. -/
import Derived.Deep.LoopGhost
import Derived.Lib.SlBuf
import Derived.Test.YthappeninglakaaGreatZi10
set_option maxRecDepth 100000
set_option maxHeartbeats 8000000
set_option linter.unusedSimpArgs false
set_option linter.unusedVariables false
namespace Go.Proofs.YthappeninglakaaGreat
open Go.RowKit
open List renaming getElem?_eq_getElem→Qa,replicate→Qb,getElem?_eq_none→Qf,getElem?_map→Qi,length_map→Qk,getElem_mem→Qm,length_take→Qo,map_append→Qp,take_add_one→Qq,getElem_of_mem→Qu,map_congr_left→Qv,ext_getElem?→Qy,map_map→QB,getElem?_replicate→QC,take_append_drop→QD,mem_of_getElem?→QE,length_append→QF,mem_singleton→QG,getElem_take→QJ,any_eq_true→QL,range→QM,nil_append→QN,append_nil→QO,length_nil→QP
open Nat renaming le_refl→Qc,le_trans→Qd,lt_or_ge→Qj,mul_le_mul→Ql,min_eq_left→Qr,zero_add→QA,lt_of_le_of_lt→QI,zero_le→QK,min→QR
open And renaming intro→Qe
open Option renaming getD_some→Qg,map_some→Qs
open Act renaming put→Qh
open Below renaming refl→Qn
open Rat renaming divInt→Qt,intCast_natCast→Qw,num_divInt_den→Qx
open Int renaming toNat_natCast→Qz,natAbs_natCast→QH
open _root_.Array renaming replicate→QQ
open Blk renaming new→QS
attribute [local go_sem] Zg
def IdxC(w:World)(b:Bool)(e:Ending)(w':World):Prop:=∃ i:Int,e=.returned (.int .i64 i)/\decide (0<=i)=b/\Below w.heap.size w w'
theorem Z0t(na nb:Bool)(A B:Option Addr)(n c m d:Nat)(la lb:List Nat)(w:World)(ha:Lim w A n c la)(hb:Lim w B m d lb)(b:Bool)(hx:(decide (max n m<=64) && okF na la nb lb)=b) :
    Calls Tryz.prog 109 #[.agg #[.bool na,.slice A n c,.bool nb,.slice B m d]] w λe w'=>e=.returned (.bool (!b))/\Below w.heap.size w w':=by
 obtain⟨W0,C,aw,q0,s0⟩:=Zam w 41 #[.bool na,.slice A n c,.bool nb,.slice B m d];obtain⟨a0,a1,a2,a3,-⟩:=q0.four;have u:=Qd ha.2.1 ha.2.2.1;have o:=Qd hb.2.1 hb.2.2.1;unfold maxLen at u o;obtain⟨y,hy⟩:=Gz (okF na la nb lb);rw[hy]at hx;have hC:=Za (λW1 (h1:Below w.heap.size w W1)=>Zmo na nb A B n c m d la lb W1 (ha.below h1) (hb.below h1) y hy);clear ha hb hy;have hmx:max (n:Int) (m:Int)=((max n m:Nat):Int):=Gk;by_cases h8:max n m<=64
 ·have t1:decide ((64:Int)<((max n m:Nat):Int))=false:=Gu Gk
  have h:decide (64<max n m)=false:=Gu Gk;have f:decide ((64:Int)<max (n:Int) (m:Int))=false:=Gu Gk;rw[Gv h8,Bool.true_and]at hx;subst hx;cases y
  ·go_in
   exact CP
  go_in
  exact CM
 have t1:decide ((64:Int)<((max n m:Nat):Int))=true:=Gv Gk;have h:decide (64<max n m)=true:=Gv Gk;have f:decide ((64:Int)<max (n:Int) (m:Int))=true:=Gv Gk;rw[Gu h8,Bool.false_and]at hx;subst hx;go_in;exact Is
theorem Z0p(A:Option Addr)(n c:Nat)(es:List FX)(w:World)(h:FXL w A n c es)(b:Bool)(hb:Zcz es=b) :
    Calls Tryz.prog 150 #[.slice A n c,.func (.func 109) #[] #[]] w (IdxC w (!b)):=by
 have hl:=h.1;have I:=h.2.1;have y:=h.2.2.1;unfold maxLen at y;replace hl:=Za hl;replace hb:=Za hb;replace h:=Za h;go_in;go_wp2_with fail
 go_loopw [8] (λiv wr=>∃ i:Nat,i<=n/\iv=.int .i64 i/\Hid (∀ j e,j<i->es[j]?=some e->e.fine64=true)/\Below w.heap.size w wr) (λiv _=>n-(intOf iv).toNat)
 case atStart=>exact⟨0,QK _,rfl,Za (λj e hj=>by omega),Qn _ _⟩
 case round =>
  obtain⟨i,J,rfl,ay,aK⟩:=hrel;by_cases hin:i<n
  case neg =>
   obtain rfl:n=i:=Gk;have C:decide ((n:Int)<(n:Int))=false:=Gh
   obtain rfl:b=true:=by
    rw[<- hb.out];unfold Zcz;exact EY
   exact Fj
  have C:decide ((i:Int)<(n:Int))=true:=Gv Gk;obtain⟨g,o,e,rfl,he,hc,f,u⟩:=(h.out.below aK).at_ hin;obtain⟨c0,c1,c2,c3⟩:=hc;obtain⟨x,hx⟩:=Gz e.fine64;have hC:=Za (λW1 (hb:Below wr.heap.size wr W1)=>Z0t e.na e.nb e.A e.B e.n e.c e.m e.d e.la e.lb W1 (f.below hb) (u.below hb) x hx);clear f u;cases x
  ·obtain rfl:b=false:=by
     rw[<- hb.out];unfold Zcz;rw[List.all_eq_false];exact⟨e,QE he,by rw[hx];decide⟩
   exact CO
  have ar:Hid (∀ j e,j<i+1->es[j]?=some e->e.fine64=true):=Za (λj e' hj he'=>by
    rcases Qj j i with h'|h';exact ay.out j e' h' he';obtain rfl:j=i:=Gk;rw[he]at he';cases he';exact hx)
  exact CN
theorem Zym(A:Option Addr)(n c:Nat)(es:List FX)(w:World)(h:FXL w A n c es)(b:Bool)(hb:Zcz es=b) :
    Calls Tryz.prog 108 #[.slice A n c,.func (.func 109) #[] #[]] w λe w'=>e=.returned (.bool (!b))/\Below w.heap.size w w':=by
 go_in;go_wp2_with fail;refine(Z0p A n c es w h b hb).mono ?_;exact Ee
theorem Zlq(A:Option Addr)(n c:Nat)(es:List FX)(w:World)(h:FXL w A n c es)(b:Bool)(hb:Zcz es=b) :
    Calls Tryz.prog 65 #[.slice A n c] w λe w'=>e=.returned (.bool b)/\Below w.heap.size w w':=by
 go_in;go_wp2_with fail;refine(Zym A n c es w h b hb).mono ?_;rintro e w1 ⟨rfl,f⟩;go_wp2_with fail;go_ret;exact⟨by simp,f⟩
theorem By{G:Prop}(h:G:=by
 unfold maxLen at hn;have hd:decide ((6:Int)<(n:Int))=decide (6<n):=decide_eq_decide.2 Gk;go_in;exact Fu):G:=h
theorem Zzn(A:Option Addr)(n c:Nat)(w:World)(hn:n<=maxLen) :
    Calls Tryz.prog 104 #[.slice A n c] w λe w'=>e=.returned (.bool (decide (6<n)))/\Below w.heap.size w w':=by
 exact By
theorem FXL.nlenC{w:World}{A:Option Addr}{n c:Nat}{es:List FX}(h:FXL w A n c es):n<=maxLen:=Qd h.2.1 h.2.2.1
theorem Zz3(A:Option Addr)(n c:Nat)(rs:List RX)(w:World)(h:MXL w A n c rs)(b:Bool)(hb:rs.any RX.long6=b) :
    Calls Tryz.prog 146 #[.slice A n c,.func (.func 104) #[] #[]] w (IdxC w b):=by
 have hl:=h.1;have u:=h.2.1;have f:=h.2.2.1;unfold maxLen at f;replace hl:=Za hl;replace hb:=Za hb;replace h:=Za h;go_in;go_wp2_with fail
 go_loopw [8] (λiv wr=>∃ i:Nat,i<=n/\iv=.int .i64 i/\Hid (∀ j e,j<i->rs[j]?=some e->e.long6=false)/\Below w.heap.size w wr) (λiv _=>n-(intOf iv).toNat)
 case atStart=>exact⟨0,QK _,rfl,Za (λj e hj=>by omega),Qn _ _⟩
 case round =>
  obtain⟨i,y,rfl,ay,aK⟩:=hrel;by_cases hin:i<n
  case neg =>
   exact En
  have fw:decide ((i:Int)<(n:Int))=true:=Gv Gk;obtain⟨g,o,r,rfl,he,c0,hL⟩:=(h.out.below aK).at_ hin;have hC:=Za (λW1=>Zzn r.A r.n r.c W1 hL.nlenC);clear hL;by_cases hx:6<r.n
  ·obtain rfl:b=true:=by
     rw[<- hb.out,QL];exact⟨r,QE he,by unfold RX.long6;simpa using hx⟩
   exact Ca
  have ar:Hid (∀ j e,j<i+1->rs[j]?=some e->e.long6=false):=Za (λj e' hj he'=>by
    rcases Qj j i with h'|h';exact ay.out j e' h' he';obtain rfl:j=i:=Gk;rw[he]at he';cases he';unfold RX.long6;simpa using hx)
  exact Cb
theorem Zwx(A:Option Addr)(n c:Nat)(rs:List RX)(w:World)(h:MXL w A n c rs)(b:Bool)(hb:rs.any RX.long6=b) :
    Calls Tryz.prog 105 #[.slice A n c,.func (.func 104) #[] #[]] w λe w'=>e=.returned (.bool b)/\Below w.heap.size w w':=by
 go_in;go_wp2_with fail;refine(Zz3 A n c rs w h b hb).mono ?_;exact Ee
theorem LimI.takeC{w:World}{A:Option Addr}{n c:Nat}{l:List Int}(h:LimI w A n c l){k:Nat}(hk:k<=n):LimI w A k k (l.take k):=by
 obtain⟨h1,h2,h3,h4,h5⟩:=h;refine⟨by rw[Qo];omega,Qc _,by omega,λx hx=>h4 x (List.mem_of_mem_take hx),λhn=>?_⟩;obtain⟨b,o,e,hc⟩:=h5 Gk;refine⟨b,o,e,λj hj=>?_⟩;rw[hc j Gk,List.getElem?_take,Gx hj]
theorem LimI.atC{w:World}{A:Option Addr}{n c:Nat}{l:List Int}(h:LimI w A n c l){k:Nat}(hk:k<n):∃ g o,A=some ⟨g,o,none⟩/\w.cell? ⟨g,o+k,none⟩=some (.int .i64 (l[k]?.getD 0)):=by
 obtain⟨b,o,e,hc⟩:=h.2.2.2.2 Gk;exact⟨b,o,e,hc k hk⟩
theorem LimI.atCS{w:World}{g o n c:Nat}{l:List Int}(h:LimI w (some ⟨g,o,none⟩) n c l){k:Nat}(hk:k<n):w.cell? ⟨g,o+k,none⟩=some (.int .i64 (l[k]?.getD 0)):=by
 obtain⟨b,o',e,hc⟩:=h.atC hk;cases e;exact hc
theorem LimI.i64C{w:World}{A:Option Addr}{n c:Nat}{l:List Int}(h:LimI w A n c l)(k:Nat):-9223372036854775808<=l[k]?.getD 0/\l[k]?.getD 0<=9223372036854775807:=by
 rcases Qj k l.length with h1|h1
 ·rw[Qa h1,Qg]
  exact h.2.2.2.1 _ (Qm _)
 rw[Qf h1];exact⟨by decide,by decide⟩
theorem Zs9(A:Option Addr)(n c:Nat)(l:List Int)(x:Int)(w:World)(h:LimI w A n c l)(b:Bool)(hb:decide (x ∈ l)=b) :
    Calls Tryz.prog 112 #[.slice A n c,.int .i64 x] w (IdxC w b):=by
 have hl:=Za h.1;have T:=h.2.1;have J:=h.2.2.1;unfold maxLen at J;replace hb:=Za hb;replace h:=Za h;go_in;go_wp2_with fail
 go_loopg [8] n (λt iv wr=>∃ i:Nat,i+t=n/\iv=.int .i64 i/\Hid (∀ j:Nat,j<i->l[j]?.getD 0≠x)/\Below w.heap.size w wr)
 case atStart=>exact⟨0,by omega,rfl,Za (λj hj=>by omega),Qn _ _⟩
 case round =>
  obtain⟨i,U,rfl,u,hB⟩:=hrel;cases gk with
  | zero =>
   obtain rfl:n=i:=Gk;have t1:decide ((n:Int)<(n:Int))=false:=Gh
   obtain rfl:b=false:=by
    rw[<- hb.out];refine Gu (λhx=>?_);obtain⟨j,hj,e⟩:=Qu hx;exact u.out j (by rw[hl.out]at hj;exact hj) (by rw[Qa hj,e];rfl)
   go_wp2_with fail;go_ret;exact⟨-1,rfl,rfl,hB⟩
  | succ t =>
   obtain rfl:t=n-(i+1):=Gk;have I:i<n:=Gk;have t1:decide ((i:Int)<(n:Int))=true:=Gv Gk;have bi:(i:Int)<(n:Int):=Gk;obtain⟨g,o,rfl,c0⟩:=(h.out.below hB).atC I;obtain⟨y,hy⟩:=Gz (l[i]?.getD 0);rw[hy]at c0;by_cases f:x=y
   ·have t2:(x == y)=true:=by simp[f]
    have O:decide (x=y)=true:=by simpa using f
    obtain rfl:b=true:=by
     rw[<- hb.out];refine Gv ?_;have h1:i<l.length:=by rw[hl.out];exact I
     rw[Qa h1,Qg]at hy;rw[f,<- hy];exact Qm _
    replace f:=Za f;replace hy:=Za hy;go_wp2_with fail;go_ret;exact⟨i,rfl,by simp,hB⟩
   have t2:(x == y)=false:=by simpa using f
   have O:decide (x=y)=false:=by simpa using f
   have C:Hid (∀ j:Nat,j<i+1->l[j]?.getD 0≠x):=Za (λj hj=>by
    rcases Qj j i with h'|h';exact u.out j h';obtain rfl:j=i:=Gk;rw[hy];exact λe=>f e.symm)
   replace f:=Za f;replace hy:=Za hy;go_wp2_with fail
   go_roundg (n-(i+1))
   case measure=>omega
   case rel=>exact⟨i+1,by omega,by go_num,C,hB⟩
theorem Zqk(A:Option Addr)(n c:Nat)(l:List Int)(x:Int)(w:World)(h:LimI w A n c l)(b:Bool)(hb:decide (x ∈ l)=b) :
    Calls Tryz.prog 68 #[.slice A n c,.int .i64 x] w λe w'=>e=.returned (.bool b)/\Below w.heap.size w w':=by
 go_in;go_wp2_with fail;refine(Zs9 A n c l x w h b hb).mono ?_;exact Ee
def Zkm(x:Int):Bool:=decide (x < -1099511627776) || decide (1099511627776<x)
def Zop(l:List Int):Bool:=l.any Zkm
theorem Iv{G:Prop}(h:G:=by
 go_in;go_wp2_with fail;go_ret;exact⟨by simp[Zkm,t1],by first|exact Below.refl _ _|exact Zf (Below.refl _ _) _⟩):G:=h
theorem Z24(x:Int)(w:World)(b:Bool)(hb:Zkm x=b) :
    Calls Tryz.prog 78 #[.int .i64 x] w λe w'=>e=.returned (.bool b)/\Below w.heap.size w w':=by
 subst hb;by_cases h1:x < -1099511627776
 ·have t1:decide (x < -1099511627776)=true:=Gv h1
  exact Iv
 have t1:decide (x < -1099511627776)=false:=Gu h1;exact Iv
theorem Zz4(A:Option Addr)(n c:Nat)(l:List Int)(w:World)(h:LimI w A n c l)(b:Bool)(hb:Zop l=b) :
    Calls Tryz.prog 125 #[.slice A n c,.func (.func 78) #[] #[]] w (IdxC w b):=by
 have hl:=Za h.1;have T:=h.2.1;have J:=h.2.2.1;unfold maxLen at J;replace hb:=Za hb;replace h:=Za h;go_in;go_wp2_with fail
 go_loopg [8] n (λt iv wr=>∃ i:Nat,i+t=n/\iv=.int .i64 i/\Hid (∀ j:Nat,j<i->Zkm (l[j]?.getD 0)=false)/\Below w.heap.size w wr)
 case atStart=>exact⟨0,by omega,rfl,Za (λj hj=>by omega),Qn _ _⟩
 case round =>
  obtain⟨i,O,rfl,u,hB⟩:=hrel;cases gk with
  | zero =>
   obtain rfl:n=i:=Gk;have t1:decide ((n:Int)<(n:Int))=false:=Gh
   obtain rfl:b=false:=by
    rw[<- hb.out];unfold Zop;rw[List.any_eq_false];intro x hx;obtain⟨j,hj,e⟩:=Qu hx;have:=u.out j (by rw[hl.out]at hj;exact hj);rw[Qa hj,e,Qg]at this;rw[this];decide
   go_wp2_with fail;go_ret;exact⟨-1,rfl,rfl,hB⟩
  | succ t =>
   obtain rfl:t=n-(i+1):=Gk;have I:i<n:=Gk;have t1:decide ((i:Int)<(n:Int))=true:=Gv Gk;have bi:(i:Int)<(n:Int):=Gk;obtain⟨g,o,rfl,c0⟩:=(h.out.below hB).atC I;obtain⟨y,hy⟩:=Gz (l[i]?.getD 0);rw[hy]at c0;obtain⟨z,hz⟩:=Gz (Zkm y);have hC:=Za (λW1=>Z24 y W1 z hz);cases z
   ·have C:Hid (∀ j:Nat,j<i+1->Zkm (l[j]?.getD 0)=false):=Za (λj hj=>by
      rcases Qj j i with h'|h';exact u.out j h';obtain rfl:j=i:=Gk;rw[hy];exact hz)
    replace hz:=Za hz;replace hy:=Za hy;go_wp2_with fail;refine(hC.out _).mono ?_;rintro e' w1 ⟨rfl,f⟩;go_wp2_with fail
    go_roundg (n-(i+1))
    case measure=>omega
    case rel=>exact⟨i+1,by omega,by go_num,C,(by first|exact Gs hB f|exact(Zf hB _).trans (f.mono hB.size))⟩
   obtain rfl:b=true:=by
     rw[<- hb.out];unfold Zop;rw[QL];have h1:i<l.length:=by rw[hl.out];exact I
     rw[Qa h1,Qg]at hy;exact⟨l[i],Qm _,by rw[hy];exact hz⟩
   replace hz:=Za hz;replace hy:=Za hy;go_wp2_with fail;refine(hC.out _).mono ?_;rintro e' w1 ⟨rfl,f⟩;go_wp2_with fail;go_ret;exact⟨i,rfl,by simp,(by first|exact Gs hB f|exact(Zf hB _).trans (f.mono hB.size))⟩
theorem Zvu(A:Option Addr)(n c:Nat)(l:List Int)(w:World)(h:LimI w A n c l)(b:Bool)(hb:Zop l=b) :
    Calls Tryz.prog 77 #[.slice A n c,.func (.func 78) #[] #[]] w λe w'=>e=.returned (.bool b)/\Below w.heap.size w w':=by
 go_in;go_wp2_with fail;refine(Zz4 A n c l w h b hb).mono ?_;exact Ee
theorem Zue(k:Nat):Qb k (Value.slice none 0 0)=Zaq (Qb k Za5):=by
 rw[Zcm,List.map_replicate];rfl
theorem Zht(k:Nat):madeCells (Value.agg #[.bool false,.slice none 0 0,.bool false,.slice none 0 0]).cells (k*4)=Zx (Qb k Zas):=by
 apply Array.toList_inj.1;show (madeCells #[.bool false,.slice none 0 0,.bool false,.slice none 0 0] (k*4)).toList=Zp (Qb k Zas);apply Qy;intro i;by_cases h:i<k*4
 ·have he:(Qb k Zas)[i/4]?=some Zas:=by rw[QC,Gx Gk]
  have hc:=Zfm he;have h4:i%4=0 \/ i%4=1 \/ i%4=2 \/ i%4=3:=Gk
  have hm:(madeCells #[.bool false,.slice none 0 0,.bool false,.slice none 0 0] (k*4)).toList[i]?=some ((#[.bool false,.slice none 0 0,.bool false,.slice none 0 0]:Array Value)[i%4]?.getD default):=by
   unfold madeCells;simp[h]
  rw[hm];rcases h4 with h2|h2|h2|h2;rw[show i/4*4=i by omega]at hc;rw[hc.1,h2];rfl;rw[show i/4*4+1=i by omega]at hc;rw[hc.2.1,h2];rfl;rw[show i/4*4+2=i by omega]at hc;rw[hc.2.2.1,h2];rfl;rw[show i/4*4+3=i by omega]at hc;rw[hc.2.2.2,h2];rfl
 have a1:(Zp (Qb k Zas))[i]?=none:=Qf (by rw[Zs];simp;omega);have a2:(madeCells #[.bool false,.slice none 0 0,.bool false,.slice none 0 0] (k*4)).toList[i]?=none:=Qf (by unfold madeCells;simp;omega);rw[a1,a2]
theorem Zv8{P:Program}(t e:TypeId){i:TypeInfo}(ht:P.underlying t=some (.slice e))(hi:P.info? e=some i)(hz:i.zero=some (.agg #[.bool false,.slice none 0 0,.bool false,.slice none 0 0]))(hs:i.size=4)(hb:i.bytes=64)
    (x:Int) (n:Nat) (hx:x=n) (hn:n<=1000000000000) (W:World) :
    (Instr.makeSlice t (.int .i64 x) (.int .i64 x)).run P W=.ok (.slice (some ⟨W.heap.size,0,none⟩) n n) (W.alloc (.cells (Zx (Qb n Zas)) e)):=by
 subst hx;have hr:=run_make (P:=P) W t e i _ ht hi hz .i64 .i64 n n Gk Gk (by rw[hb];omega) Gk;simp only[Qz]at hr;rw[hr,hs,Zht]
theorem Zrc{P:Program}(t e:TypeId){i:TypeInfo}(ht:P.underlying t=some (.slice e))(hi:P.info? e=some i)(hz:i.zero=some (.slice none 0 0))(hs:i.size=1)(hb:i.bytes=24)
    (x:Int) (n:Nat) (hx:x=n) (hn:n<=1000000000000) (W:World) :
    (Instr.makeSlice t (.int .i64 x) (.int .i64 x)).run P W=.ok (.slice (some ⟨W.heap.size,0,none⟩) n n) (W.alloc (.cells (Z5 (Qb n Za5)) e)):=by
 subst hx;have hr:=run_make (P:=P) W t e i _ ht hi hz .i64 .i64 n n Gk Gk (by rw[hb];omega) Gk;simp only[Qz]at hr;rw[hr,hs,Nat.mul_one]
 have:madeCells (Value.slice none 0 0).cells n=Z5 (Qb n Za5):=by
  apply Array.toList_inj.1;show (madeCells #[.slice none 0 0] n).toList=Zaq (Qb n Za5);rw[<- Zue];apply Qy;intro j;unfold madeCells;by_cases h:j<n;simp[h,Nat.mod_one];simp[h]
 rw[this]
section
variable{P:Program}(w:World)
theorem Zo3(dT sT ty elem:TypeId)(i:TypeInfo)(g o dLen dCap:Nat)(a:Addr)(sLen sCap:Nat)(cur:Array Value)(t:TypeId)(cs:List Value)
    (hu:P.underlying dT=some (.slice elem)) (hi:P.info? elem=some i) (hg:w.heap[g]?=some (.cells cur t (0,0))) (hn:cs.length=QR sLen dLen*i.size)
    (hsrc:∀ j v,cs[j]?=some v->w.cell? (a.add j)=some v) (hfit:o+cs.length<=cur.size) (h1:∀ v ∈ cs,v.oneCell'=true) :
    (Builtin.copy_ #[dT,sT] ty #[.slice (some ⟨g,o,none⟩) dLen dCap,.slice (some a) sLen sCap]).run P w =
     .ok (goInt (QR sLen dLen)) (w.setRow g (cur.toList.take o++cs++cur.toList.drop (o+cs.length)).toArray):=by
 have hl:=run_loadCells_list (P:=P) w a cs hsrc;have e:=run_storeCells_at P g o t cs 0 cur w hg (by simpa using hfit) h1;simp[Builtin.copy_,run_underlying hu,Builtin.lenOf,Builtin.firstCells,sizeOf,typeInfo,hi,<- hn,hl,e]
theorem Zi1(t ty e:TypeId)(i:TypeInfo)(hu:P.underlying t=some (.slice e))(hi:P.info? e=some i)(hs:i.size=4){tF:TypeId}{g k d dc:Nat}{es:List FE}(hb:Blk w g tF (Zx es))
    (B:Nat) (A:Option Addr) (m c:Nat) (fs:List FE) (hr:Reads w B 4 A m (Zp fs)) (hm:fs.length=m) (hm0:0<m) (hd:m<=d) (hk:k+m<=es.length) :
    (Builtin.copy_ #[t,t] ty #[.slice (some ⟨g,k*4,none⟩) d dc,.slice A m c]).run P w=.ok (goInt m) (w.setRow g (Zx (es.take k++fs++es.drop (k+m)))):=by
 obtain⟨ad,rfl,_,hc⟩:=hr.2 hm0;have hl:(Zp fs).length=m*4:=by rw[Zs,hm]
 have:=Zo3 (P:=P) w t t ty e i g (k*4) d dc ad m c _ tF (Zp fs) hu hi hb (by rw[hl,hs,show QR m d=m from Qr hd]) hc
  (by rw[hl];show k*4+m*4<=(Zx es).size;unfold Zx;simp only[List.size_toArray];rw[Zs];omega) (Zjs fs)
 rw[this,show QR m d=m from Qr hd];congr 2;unfold Zx
 have e1:Zp (es.take k)=(Zp es).take (k*4):=by
  have h1:Zp es=Zp (es.take k)++Zp (es.drop k):=by rw[<- Zao,QD]
  have h2:(Zp (es.take k)).length=k*4:=by rw[Zs,Qo,Qr Gk]
  rw[h1,<- h2,List.take_left]
 have e2:Zp (es.drop (k+m))=(Zp es).drop (k*4+m*4):=by
  have h1:Zp es=Zp (es.take (k+m))++Zp (es.drop (k+m)):=by rw[<- Zao,QD]
  have h2:(Zp (es.take (k+m))).length=k*4+m*4:=by rw[Zs,Qo,Qr Gk];omega
  rw[h1,<- h2,List.drop_left]
 rw[hl,Zao,Zao,e1,e2]
end
theorem Kept.setRow{G:Nat->Prop}{w0 w:World}(h:Kept G w0 w){g:Nat}(hg:G g \/ w0.heap.size<=g)(cs:Array Value):Kept G w0 (w.setRow g cs):=
 ⟨h.os,h.tape,h.output,by simp[World.setRow];exact h.size,λk hk hG=>(setRow_other w g k cs (by rcases hg with hg|hg;exact λe=>hG (e▸hg);omega)).trans (h.block k hk hG)⟩
theorem Zoo{w:World}{g:Nat}{t:TypeId}{cs cs':Array Value}(h:Blk w g t cs):Blk (w.setRow g cs') g t cs':=setRow_heap w g _ _ t _ h
theorem Zn1{w:World}{g k:Nat}{t:TypeId}{cs cs':Array Value}(h:Blk w k t cs)(hne:k≠g):Blk (w.setRow g cs') k t cs:=(setRow_other w g k _ hne).trans h
theorem FL.readsK{w:World}{A:Option Addr}{n c:Nat}{qs:List Rat}(h:FL w A n c qs){go:Nat}{t:TypeId}{rs:List RS}(hb:Blk w go t (Z5 rs)) :
    ∃ fs:List FE,fs.length=n/\fs.map FE.q=qs/\∀ w',Kept (λk=>k=go) w w'->Reads w' w'.heap.size 4 A n (Zp fs)/\∀ e ∈ fs,e.in_ w':=by
 obtain⟨es,h1,h2,h3,h4,h5,h6⟩:=h;refine⟨es,h1,h5,λw' hk=>?_⟩;have hG:∀ k,k=go->∃ t cs,Blk w k t cs/\NoLimb cs:=λk hk=>⟨t,Z5 rs,by rw[hk];exact hb,Zba _⟩;refine⟨⟨by rw[Zs,h1],λhn=>?_⟩,λe he=>⟨hk.wd (h4 e he).1 hG,hk.wd (h4 e he).2 hG⟩⟩;obtain⟨g,o,e1,hc⟩:=h6 hn
 have y:g≠go:=λe=>by
  have h0:=(hc 0 es[0] (Qa Gk)).1;rw[e,hb.cell]at h0;unfold Z5 at h0;rw[Zcm]at h0;simp only[List.getElem?_toArray,Qi]at h0;cases hx:rs[o+0*4]? with
  | none=>rw[hx]at h0;cases h0
  | some r=>rw[hx]at h0;cases h0
 have f:∀ (i:Nat) (v:Value),w.cell? ⟨g,i,none⟩=some v->w'.cell? ⟨g,i,none⟩=some v:=λi v hv=>by
  rw[<- hv];exact World.cell?_of_block (hk.block g (Zo hv) y)
 refine⟨⟨g,o,none⟩,e1,?_,λj u hu=>?_⟩
 ·have:=(hc 0 es[0] (Qa Gk)).1
  exact Nat.lt_of_lt_of_le (Zo this) hk.size
 rw[Zg]
 have hj:j<es.length*4:=by
  have:=(List.getElem?_eq_some_iff.1 hu).1
  rwa [Zs]at this
 have he:=Qa (show j/4<es.length by omega);have hg:=Zfm he;have hm:=hc (j/4) _ he;have h4:j%4=0 \/ j%4=1 \/ j%4=2 \/ j%4=3:=Gk;rcases h4 with h2|h2|h2|h2;rw[show j/4*4=j by omega]at hg hm;rw[hg.1]at hu;cases hu;exact f _ _ hm.1;rw[show j/4*4+1=j by omega]at hg hm;rw[hg.2.1]at hu;cases hu;exact f _ _ hm.2.1;rw[show j/4*4+2=j by omega]at hg hm;rw[hg.2.2.1]at hu;cases hu;exact f _ _ hm.2.2.1;rw[show j/4*4+3=j by omega]at hg hm;rw[hg.2.2.2]at hu;cases hu;exact f _ _ hm.2.2.2
theorem MatB.mfl{tS tF:TypeId}{w:World}{go n c:Nat}{L:List RF}(h:MatB tS tF w go L)(hl:L.length=n)(hc:n<=c)(hm:c<=maxLen):MFL w (some ⟨go,0,none⟩) n c (L.map RF.q):=by
 refine⟨by rw[Qk,hl],hc,hm,λ_=>⟨go,0,rfl,λk q hq=>?_⟩⟩;rw[Qi]at hq;obtain⟨r,hr,rfl⟩:=Option.map_eq_some_iff.1 hq;have h1:=(h.cell hr).1;obtain⟨h2,h3,h4⟩:=h.row hr;exact⟨_,_,_,by rw[QA];exact h1,h2.fl h3 h4⟩
theorem Zx7(F:FuncId)(cap:Value)(A:Option Addr)(n c m s:Nat)(Q:List (List Rat))(S:Nat->List Rat)(w:World)(h:MFL w A n c Q)(hn9:n<=900)(hm:∀ i,i<n->(Q[i]?.getD []).length=m)(hm0:0<m)(hm9:m<=900)(hs0:0<s)(hs9:s<=900)(hS:∀ i,i<n->(S i).length=s)
    (hcf:∀ (x:Value) (W:World),(callFunc F #[x,cap]).run Tryz.prog W=.ok (.enter F #[x,cap]) W)
    (hF:∀ (W:World) (i:Nat),Below w.heap.size w W->i<n->Calls Tryz.prog F #[.int .i64 i,cap] W λe W'=>∃ A c,e=.returned (.slice A s c)/\Below W.heap.size W W'/\FL W' A s c (S i)) :
    Calls Tryz.prog 83 #[.slice A n c,.func (.func F) #[] #[cap]] w λe w'=>∃ go L,e=.returned (.slice (some ⟨go,0,none⟩) n n)/\Below w.heap.size w w'/\w.heap.size<=go/\L.length=n/\MatB 35 41 w' go L/\L.map RF.q=(QM n).map λi=>Q[i]?.getD []++S i:=by
 obtain⟨iF,hi,e8,b8,e5⟩:=info_parts Zd6;obtain⟨iS,ki,e7,e9,f3⟩:=info_parts Zhb;have hl:=Za h.1;have f5:=h.2.1;have e1:=h.2.2.1;unfold maxLen at e1;have f4:(35:TypeId)≠41:=Gj;replace hm:=Za hm;replace h:=Za h;replace hS:=Za hS;replace hF:=Za hF;obtain⟨W0,J⟩:=Gz (w.alloc (.cells (Z5 (Qb n Za5)) 35));obtain⟨go,C⟩:=Gz w.heap.size;have q0:Hid (Blk W0 go 35 (Z5 (Qb n Za5))):=Za (by rw[<- J,<- C];exact QS _ _ _);have c9:Hid (Below w.heap.size w W0):=Za (by rw[<- J];exact(Qn _ _).alloc (Qc _) _);have s0:Hid (W0.heap.size=go+1):=Za (by rw[<- J,<- C];simp);have d7:=Zrc (P:=Tryz.prog) 25 35 Tryz.underlying25 ki e7 e9 f3 (n:Int) n rfl Gk;go_in;go_wp2_with fail;(try rw[J]);(try rw[C]);replace C:=Za C;clear J d7
 go_loopg [14] n (λk iv wr=>∃ (i:Nat) (L:List RF),i+k=n/\iv=.int .i64 i/\Hid (L.length=i)/\Blk wr go 35 (Z5 (L.map RF.rs++Qb (n-i) Za5))/\Hid (∀ r ∈ L,(FOwn 41 wr r.g r.q/\r.q.length<=r.c/\r.c<=maxLen)/\W0.heap.size<=r.g)/\Hid ((L.map RF.g).Nodup)/\Hid (L.map RF.q=(QM i).map λi=>Q[i]?.getD []++S i)/\Kept (λk=>k=go) W0 wr)
 case atStart=>exact⟨0,[],by omega,rfl,Za rfl,q0.out,Za (λr hr=>(by cases hr)),Za List.nodup_nil,Za rfl,Kept.refl _ _⟩
 case round =>
  obtain⟨i,L,f6,rfl,u,y,f,d8,d9,hK⟩:=hrel;have b7:Below w.heap.size w wr:=c9.out.trans (hK.to_below (λk hk=>by rw[hk,C.out];exact Qc _) c9.out.size);cases gk with
  | zero =>
   obtain rfl:i=n:=Gk;have t1:decide ((i:Int)<(i:Int))=false:=Gh;replace y:=Za y;go_wp2_with fail;go_ret;refine⟨go,L,rfl,b7,by rw[C.out];exact Qc _,u.out,⟨⟨_,y.out⟩,λr hr=>(f.out r hr).1,?_⟩,d9.out⟩;refine List.nodup_cons.2 ⟨λhmm=>?_,d8.out⟩;obtain⟨r,hr,e⟩:=List.mem_map.1 hmm;have:=(f.out r hr).2;have:=s0.out;omega
  | succ j =>
   obtain rfl:j=n-(i+1):=Gk;have Y:i<n:=Gk;have t1:decide ((i:Int)<(n:Int))=true:=Gv Gk;have bi:(i:Int)<(n:Int):=Gk;obtain⟨ga,oa,A1,n1,c1,rfl,k0,a7⟩:=(h.out.below b7).at_ Y;have e3:n1=m:=by rw[<- a7.len];exact hm.out i Y
   subst e3;replace a7:=Za a7;replace y:=Za y;go_wp2_with fail;refine(hF.out wr i b7 Y).mono ?_;rintro e w1 ⟨As,cs,rfl,a3,c8⟩;have o:=Zc a3 y.out;obtain⟨fs,a0,d4,c2⟩:=(a7.out.below a3).readsK o;obtain⟨gs,d3,c5,b4⟩:=c8.readsK o;obtain⟨gN,e4⟩:=Gz w1.heap.size;obtain⟨W2,c3⟩:=Gz (w1.alloc (.cells (Zx (Qb (n1+s) Zas)) 41));have c0:Below w1.heap.size w1 W2:=by rw[<- c3];exact(Qn _ _).alloc (Qc _) _
   have e0:Blk W2 gN 41 (Zx (Qb (n1+s) Zas)):=by rw[<- c3,<- e4];exact QS _ _ _
   have I:=Zc c0 o;have c7:=o.lt;have e2:go<gN:=Gk;have x0:=I.cell i;have x1:=I.frozen i;rw[show (Z5 (L.map RF.rs++Qb (n-i) Za5))[i]?=some (.slice none 0 0) from Zb6 (e:=Za5) (by rw[List.getElem?_append_right (by rw[Qk,u.out];exact Qc _),Qk,u.out,Nat.sub_self,QC,Gx Gk])]at x0;have e6:(Q[i]?.getD []++S i).length=n1+s:=by rw[QF,hm.out i Y,hS.out i Y]
   obtain⟨W3,b6⟩:∃ X,W2.setCell ⟨go,i,none⟩ (.slice (some ⟨gN,0,none⟩) (n1+s) (n1+s))=X:=⟨_,rfl⟩
   have a1:(L.map RF.rs++Qb (n-i) Za5).set i ⟨some ⟨gN,0,none⟩,n1+s,n1+s⟩=(L ++ [RF.mk gN (n1+s) (Q[i]?.getD []++S i)]).map RF.rs++Qb (n-(i+1)) Za5:=by
    rw[List.set_append_right _ _ (by rw[Qk,u.out];exact Qc _),Qk,u.out,Nat.sub_self,show n-i=n-(i+1)+1 by omega,List.replicate_succ,List.set_cons_zero,Qp,List.append_assoc];simp only[List.map_cons,List.map_nil,RF.rs,e6];rfl
   have O:Blk W3 go 35 (Z5 ((L ++ [RF.mk gN (n1+s) (Q[i]?.getD []++S i)]).map RF.rs++Qb (n-(i+1)) Za5)):=by
    have:=I.set_ i (.slice (some ⟨gN,0,none⟩) (n1+s) (n1+s));rw[Zdr ⟨some ⟨gN,0,none⟩,n1+s,n1+s⟩,b6,a1]at this;exact this
   have a4:Blk W3 gN 41 (Zx (Qb (n1+s) Zas)):=by rw[<- b6];exact e0.far (by show gN≠go;omega) _
   have b5:Kept (λk=>k=go) w1 W3:=by
    rw[<- b6];exact Kept.set_ (G:=λk=>k=go) (Kept.of_below c0) (p:=⟨go,i,none⟩) (Or.inl rfl) _
   have U:∀ W,Blk W go 35 (Z5 ((L ++ [RF.mk gN (n1+s) (Q[i]?.getD []++S i)]).map RF.rs++Qb (n-(i+1)) Za5))->W.cell? ⟨go,i,none⟩=some (.slice (some ⟨gN,0,none⟩) (n1+s) (n1+s)):=λW hW=>by
    rw[hW.cell];refine Zb6 (e:=⟨some ⟨gN,0,none⟩,n1+s,n1+s⟩) ?_;rw[<- a1,List.getElem?_set_self (by simp[u.out];omega)]
   have x3:=U W3 O;have b2:=λty=>Zi1 (P:=Tryz.prog) W3 35 ty 41 iF Tryz.underlying35 hi b8 a4 W3.heap.size A1 n1 c1 fs (c2 W3 b5).1 a0 hm0 (d:=n1+s) (dc:=n1+s) (k:=0) Gk Gh;rw[Nat.zero_mul,List.take_zero,QN,QA,List.drop_replicate,Nat.add_sub_cancel_left]at b2;obtain⟨W4,b0⟩:=Gz (W3.setRow gN (Zx (fs++Qb s Zas)));rw[b0]at b2;have V:Blk W4 gN 41 (Zx (fs++Qb s Zas)):=by rw[<- b0];exact Zoo a4
   have a5:=show Blk W4 go 35 _ by rw[<- b0];exact Zn1 O Gk
   have b9:Kept (λk=>k=go) w1 W4:=by rw[<- b0];exact b5.setRow (.inr Gk) _
   have x4:=U W4 a5;have b1:=λty=>Zi1 (P:=Tryz.prog) W4 35 ty 41 iF Tryz.underlying35 hi b8 V W4.heap.size As s cs gs (b4 W4 b9).1 d3 hs0 (d:=s) (dc:=s) (k:=n1) (Qc _) (by simp[a0]);rw[List.take_left' a0,show n1+s=(fs++Qb s Zas).length by simp[a0],List.drop_length,QO]at b1;obtain⟨W5,a8⟩:=Gz (W4.setRow gN (Zx (fs++gs)));rw[a8]at b1;have b3:Blk W5 gN 41 (Zx (fs++gs)):=by rw[<- a8];exact Zoo V
   have T:=show Blk W5 go 35 _ by rw[<- a8];exact Zn1 a5 Gk
   have a6:Kept (λk=>k=go) w1 W5:=by rw[<- a8];exact b9.setRow (.inr Gk) _
   have d7:=Zv8 (P:=Tryz.prog) 35 41 Tryz.underlying35 hi e8 b8 e5 ((n1:Int)+(s:Int)) (n1+s) Gk Gk;have bx:(i:Int)<(n:Int):=bi
   have d0:FOwn 41 W5 gN (Q[i]?.getD []++S i):=⟨fs++gs,[],by rw[QO];exact b3,λe he=>by
    rcases List.mem_append.1 he with he|he;exact(c2 W5 a6).2 e he;exact(b4 W5 a6).2 e he,by rw[Qp,d4,c5]⟩
   have d5:∀ k,k=go->∃ t cs,Blk wr k t cs/\NoLimb cs:=λk hk=>⟨_,_,hk▸y.out,Zba _⟩;have a2:Kept (λk=>k=go) wr W5:=(Kept.of_below a3).trans (a6.mono (λk _ h=>h))
   have a9:Hid (∀ r ∈ L ++ [RF.mk gN (n1+s) (Q[i]?.getD []++S i)],(FOwn 41 W5 r.g r.q/\r.q.length<=r.c/\r.c<=maxLen)/\W0.heap.size<=r.g):=Za (λr hr=>by
    rcases List.mem_append.1 hr with hr|hr
    ·obtain⟨⟨r1,r2⟩,r3⟩:=f.out r hr
     have:=s0.out;exact⟨⟨r1.keptG a2 Gk d5,r2⟩,r3⟩
    rw[QG]at hr;subst hr;have h7:=hK.size;have h8:=a3.size;exact⟨⟨d0,by show (Q[i]?.getD []++S i).length<=n1+s;omega,by show n1+s<=maxLen;unfold maxLen;omega⟩,by show W0.heap.size<=gN;omega⟩)
   have d6:Hid (((L ++ [RF.mk gN (n1+s) (Q[i]?.getD []++S i)]).map RF.g).Nodup):=Za (by
    rw[Qp,List.nodup_append];refine⟨d8.out,by simp,λa ha b hb=>?_⟩;obtain⟨r,hr,rfl⟩:=List.mem_map.1 ha;simp only[List.map_cons,List.map_nil,QG]at hb;have h6:=(f.out r hr).1.1.lt;have h7:=a3.size;omega)
   have c6:Hid ((L ++ [RF.mk gN (n1+s) (Q[i]?.getD []++S i)]).map RF.q=(QM (i+1)).map λi=>Q[i]?.getD []++S i):=Za (by
    rw[Qp,d9.out,List.range_succ,Qp];rfl)
   have f0:Hid (Kept (λk=>k=go) W0 W5):=Za (hK.trans a2);have c4:Hid ((L ++ [RF.mk gN (n1+s) (Q[i]?.getD []++S i)]).length=i+1):=Za (by rw[QF,u.out];rfl);replace T:=Za T;clear c2 b4 a0 d4 d3 c5 o c0 e0 I a1 O a4 b5 U V a5 b9 b3 a6 d0 d5 a2 c8 c7;go_wp2_with fail
   go_roundg (n-(i+1))
   case measure=>omega
   case rel=>exact⟨i+1,L ++ [RF.mk gN (n1+s) (Q[i]?.getD []++S i)],by omega,by go_num,c4,T.out,a9,d6,c6,f0.out⟩
def idxOk(n:Nat)(ls:List Int)(k:Nat):Prop:=(0<=ls[k]?.getD 0/\ls[k]?.getD 0<n)/\∀ j:Nat,j<k->ls[j]?.getD 0≠ls[k]?.getD 0
instance (n:Nat) (ls:List Int) (k:Nat):Decidable (idxOk n ls k):=by unfold idxOk;infer_instance
def Zie(n:Nat)(ls:List Int):Bool:=decide (0<ls.length) && decide (ls.length<=n) && decide (∀ k,k<ls.length->idxOk n ls k)
def Zhi(rs:List RX)(ls:List Int):Int:=if Zat rs=0 then (if Zie rs.length ls=true then 0 else 8)else Zat rs
def Zcv(Q:List (List Rat))(ls:List Int)(a:Int):List Rat:=ls.map λb=>Zh Q a.toNat b.toNat
def Zlv(Q:List (List Rat))(ls:List Int):List (List Rat):=ls.map (Zcv Q ls)
section
variable{rs:List RX}{ls:List Int}{n:Nat}
theorem Zyg{E:Int}(h:Zat rs=E)(h0:E≠0):Zhi rs ls=E:=by subst h;unfold Zhi;rw[Gw h0]
theorem Zf1(h:Zat rs=0)(hb:Zie rs.length ls=false):Zhi rs ls=8:=by unfold Zhi;rw[Gx h,hb];rfl
theorem Zul(h:Zat rs=0)(hb:Zie rs.length ls=true):Zhi rs ls=0:=by unfold Zhi;rw[Gx h,hb];rfl
theorem Zy1(h:ls.length=0):Zie n ls=false:=by unfold Zie;rw[h];rfl
theorem Zwc(h:n<ls.length):Zie n ls=false:=by unfold Zie;rw[Gu (show ¬ ls.length<=n by omega)];simp
theorem Zlf{k:Nat}(hk:k<ls.length)(h:¬ idxOk n ls k):Zie n ls=false:=by
 unfold Zie;rw[Gu (p:=∀ k,k<ls.length->idxOk n ls k) (λh2=>h (h2 k hk))];simp
theorem Zr8(h0:0<ls.length)(h1:ls.length<=n)(h:∀ k,k<ls.length->idxOk n ls k):Zie n ls=true:=by
 unfold Zie;rw[Gv h0,Gv h1,Gv h];rfl
theorem idxOk.mem{k:Nat}(hk:k<ls.length):(ls[k]?.getD 0 ∈ ls.take k) ↔ ∃ j,j<k/\ls[j]?.getD 0=ls[k]?.getD 0:=by
 constructor
 ·intro h
  obtain⟨j,hj,e⟩:=Qu h;rw[Qo]at hj;refine⟨j,by omega,?_⟩;rw[QJ]at e;rw[<- e,Qa (show j<ls.length by omega)];rfl
 rintro⟨j,hj,e⟩;rw[<- e,Qa (show j<ls.length by omega),Qg];have:ls[j]=(ls.take k)[j]'(by rw[Qo];omega):=by rw[QJ]
 rw[this];exact Qm _
theorem Zlx{Q:List (List Rat)}{a:Int}:(Zcv Q ls a).length=ls.length:=by simp[Zcv]
theorem Zpy{Q:List (List Rat)}:(Zlv Q ls).length=ls.length:=by simp[Zlv]
theorem Iw{G:Prop}(h:G:=by
 rw[List.getElem?_map,List.getElem?_eq_getElem hk];rfl):G:=h
theorem Zrz{Q:List (List Rat)}{a:Int}{k:Nat}(hk:k<ls.length):(Zcv Q ls a).take k ++ [Zh Q a.toNat (ls[k]?.getD 0).toNat]=(Zcv Q ls a).take (k+1):=by
 rw[Qq];unfold Zcv;exact Iw
theorem Zu0{Q:List (List Rat)}{k:Nat}(hk:k<ls.length):(Zlv Q ls).take k ++ [Zcv Q ls (ls[k]?.getD 0)]=(Zlv Q ls).take (k+1):=by
 rw[Qq];unfold Zlv;exact Iw
end
theorem Z2q{P:Program}(t e:TypeId){i:TypeInfo}(ht:P.underlying t=some (.slice e))(hi:P.info? e=some i)(hz:i.zero=some (.agg #[.bool false,.slice none 0 0,.bool false,.slice none 0 0]))(hs:i.size=4)(hb:i.bytes=64)
    (n:Nat) (hn:n<=1000000000000) (W:World) :
    (Instr.makeSlice t (.int .i64 0) (.int .i64 (n:Int))).run P W=.ok (.slice (some ⟨W.heap.size,0,none⟩) 0 n) (W.alloc (.cells (Zx (Qb n Zas)) e)):=by
 have hr:=run_make (P:=P) W t e i _ ht hi hz .i64 .i64 0 n Gk Gk (by rw[hb];omega) Gk;simp only[Qz,Int.toNat_zero]at hr;rw[hr,hs,Zht]
theorem Zx6(t:TypeId)(w:World)(n:Nat)(hn:n<=maxLen):OwnF t (w.alloc (.cells (Zx (Qb n Zas)) t)) w.heap.size (.slice (some ⟨w.heap.size,0,none⟩) 0 n) []:=
 ⟨[],.inr ⟨w.heap.size,n,by rw[QP,QA],Qc _,by rw[QP,QA];exact hn,by rw[QN];exact QS _ _ _⟩,λe he=>(by cases he),rfl⟩
theorem Fm{G:Prop}(h:G:=by
 have h1:=h.1.ok;have h2:=h.2.ok;have h3:=h.1.sgEq;rw[Int.natAbs_natCast]at h2;have hd:=r.den_pos;have hr:=r.reduced;unfold Nat.Coprime at hr;refine⟨?_,?_⟩
 ·unfold okF
  rw[h1,h2,h.neg,Zi,Zi];simp[length_digits_pos,hd,hr]
 unfold qOf;rw[h3,Zi];exact Rat.num_divInt_den r):G:=h
theorem Fr.rawC{w:World}{na:Bool}{A:Option Addr}{n c:Nat}{nb:Bool}{B:Option Addr}{m d:Nat}{r:Rat}(h:Fr w na A n c nb B m d r):okF na (digits r.num.natAbs) nb (digits r.den)=true/\qOf na (digits r.num.natAbs) (digits r.den)=r:=by
 exact Fm
def Zla(q:Rat):Nat:=max (digits q.num.natAbs).length (digits q.den).length
def Zl7(e:FX):Nat × Bool × Rat:=(e.few,e.ok,e.q)
def Zov(r:RX):Nat × List (Nat × Bool × Rat):=(r.n,r.es.map Zl7)
def Zfl(rs:List RX):List (Nat × List (Nat × Bool × Rat)):=rs.map Zov
def Zfy(Q:List (List Rat)):List (Nat × List (Nat × Bool × Rat)):=Q.map λr=>(r.length,r.map λq=>(Zla q,true,q))
theorem sig_qM{rs:List RX}:qM rs=(Zfl rs).map λx=>x.2.map λy=>y.2.2:=by
 unfold qM Zfl;rw[QB];refine Qv λr _=>?_;simp[Zov,Zl7,Function.comp_def]
theorem Zsb{rs:List RX}:long6 rs=(decide (6<(Zfl rs).length) || (Zfl rs).any λx=>decide (6<x.1)):=by
 unfold long6 Zfl;rw[Qk,List.any_map];rfl
theorem sig_row{k:Nat}{r:RX}:Zc6 k r=(decide ((Zov r).1=k) && (Zov r).2.all λy=>decide (y.1<=64) && y.2.1):=by
 unfold Zc6 Zcz Zov;simp only[List.all_map];rfl
theorem Zs3{k:Nat}{rs:List RX}:rs.all (Zc6 k)=(Zfl rs).all λx=>decide (x.1=k) && x.2.all λy=>decide (y.1<=64) && y.2.1:=by
 unfold Zfl;rw[List.all_map];congr 1
 funext r
 exact sig_row
theorem FB{G:Prop}(h:G:=by
 obtain⟨g,o,e1,hc⟩:=h5 hn;refine⟨g,o,e1,λk x hx=>?_⟩;rw[List.getElem?_map]at hx;obtain⟨e,he,rfl⟩:=Option.map_eq_some_iff.1 hx;exact hc k e he):G:=h
theorem FL.fxs{w:World}{A:Option Addr}{n c:Nat}{qs:List Rat}(h:FL w A n c qs):∃ es,FXL w A n c es/\es.map FX.q=qs/\es.map Zl7=qs.map λq=>(Zla q,true,q):=by
 obtain⟨fs,h1,h2,h3,h4,rfl,h5⟩:=h
 have hk:∀ e ∈ fs,FX.in_ w ⟨e.na,e.A,e.n,e.c,digits e.q.num.natAbs,e.nb,e.B,e.m,e.d,digits e.q.den⟩/\FX.q ⟨e.na,e.A,e.n,e.c,digits e.q.num.natAbs,e.nb,e.B,e.m,e.d,digits e.q.den⟩=e.q/\Zl7 ⟨e.na,e.A,e.n,e.c,digits e.q.num.natAbs,e.nb,e.B,e.m,e.d,digits e.q.den⟩=(Zla e.q,true,e.q):=λe he=>by
  have h0:Fr w e.na e.A e.n e.c e.nb e.B e.m e.d e.q:=h4 e he;have h2:=h0.2.2.2;rw[QH]at h2;have h6:=h0.rawC;refine⟨⟨h0.1.2.2,h2⟩,h6.2,?_⟩;unfold Zl7 FX.few FX.ok FX.q Zla;rw[h6.1,h6.2];have e1:=h0.1.2.2.len;have e2:=h2.len;rw[e1,e2]
 refine⟨fs.map λe=>⟨e.na,e.A,e.n,e.c,digits e.q.num.natAbs,e.nb,e.B,e.m,e.d,digits e.q.den⟩,⟨by rw[Qk];exact h1,h2,h3,λx hx=>?_,λhn=>?_⟩,?_,?_⟩
 ·obtain⟨e,he,rfl⟩:=List.mem_map.1 hx
  exact(hk e he).1
 exact FB
 ·rw[QB]
  exact Qv λe he=>(hk e he).2.1
 rw[QB,QB];exact Qv λe he=>(hk e he).2.2
theorem IC{G:Prop}(h:G:=by
 obtain⟨k,hk,rfl⟩:=List.getElem_of_mem hr;exact(r2 k _ (List.getElem?_eq_getElem hk)).2.1):G:=h
theorem MFL.mxs{w:World}{A:Option Addr}{n c:Nat}{Q:List (List Rat)}(h:MFL w A n c Q):∃ rs,MXL w A n c rs/\qM rs=Q/\Zfl rs=Zfy Q:=by
 obtain⟨h1,h2,h3,h4⟩:=h;rcases Nat.eq_zero_or_pos n with h0|h0
 ·subst h0
  obtain rfl:Q=[]:=List.eq_nil_of_length_eq_zero h1;exact⟨[],⟨rfl,h2,h3,λr hr=>(by cases hr),λhn=>absurd hn (Nat.lt_irrefl _)⟩,rfl,rfl⟩
 obtain⟨g,o,rfl,hc⟩:=h4 h0
 obtain⟨rs,r1,r2⟩:=Zme (λi (r:RX)=>w.cell? ⟨g,o+i,none⟩=some (.slice r.A r.n r.c)/\FXL w r.A r.n r.c r.es/\r.es.map FX.q=Q[i]?.getD []/\Zov r=((Q[i]?.getD []).length,(Q[i]?.getD []).map λq=>(Zla q,true,q))) n (λi hi=>by
  have hq:Q[i]?=some Q[i]:=Qa Gk;obtain⟨A',n',c',k0,hF⟩:=hc i _ hq;obtain⟨es,e1,e2,e3⟩:=hF.fxs;refine⟨⟨A',n',c',es⟩,k0,e1,by rw[hq];exact e2,?_⟩;rw[hq,Qg];unfold Zov;rw[e3,hF.len])
 have ext:∀ {α:Type} (f:RX->α) (g:List Rat->α),(∀ (i:Nat) (r:RX),rs[i]?=some r->f r=g (Q[i]?.getD []))->rs.map f=Q.map g:=λf g hfg=>by
  apply Qy;intro i;rw[Qi,Qi];by_cases hi:i<n
  ·have hr:=Qa (l:=rs) (i:=i) Gk
   have hq:Q[i]?=some Q[i]:=Qa Gk;have:=hfg i _ hr;rw[hq,Qg]at this;rw[hr,hq,Qs,Qs,this]
  rw[Qf (l:=rs) Gk,Qf (l:=Q) Gk];rfl
 refine⟨rs,⟨r1,h2,h3,λr hr=>?_,λ_=>⟨g,o,rfl,λk r hk=>(r2 k r hk).1⟩⟩,?_,ext Zov (λr=>(r.length,r.map λq=>(Zla q,true,q))) (λi r hr=>(r2 i r hr).2.2.2)⟩;exact IC;have:=ext (λr=>r.es.map FX.q) id (λi r hr=>(r2 i r hr).2.2.1);rw[List.map_id]at this;exact this
def gI(l:List Int)(i:Nat):Int:=l[i]?.getD 0
def imT(Q:Nat->Nat->Rat)(n:Nat)(a b:List Int)(i k:Nat):Rat:=
 Z0 i (λr=>Z0 n (λt=>Q r t*(gI a r:Rat)*(gI b t:Rat)))+Z0 k (λt=>Q i t*(gI a i:Rat)*(gI b t:Rat))
section
variable{Q:Nat->Nat->Rat}{n:Nat}{a b:List Int}{i k:Nat}
theorem Zsv:imT Q n a b 0 0=0:=by unfold imT;simp only[Z0];grind
theorem Zoe:imT Q n a b i (k+1)=imT Q n a b i k+Q i k*(gI a i:Rat)*(gI b k:Rat):=by unfold imT;simp only[Z0];grind
theorem Zmi:imT Q n a b (i+1) 0=imT Q n a b i n:=by unfold imT;simp only[Z0];grind
theorem Zps:imT Q n a b 0 0=((0:Int):Rat):=by rw[Zsv];rfl
end
theorem Zw5(R:List (List Rat)){i:Nat}:∀ {n:Nat},i<n->denAt R i ∣ byZ R n
 | n+1,h=>by
  show denAt R i ∣ byZ R n*denAt R n;rcases Qj i n with h1|h1;exact Nat.dvd_trans (Zw5 R h1) (Nat.dvd_mul_right _ _);obtain rfl:i=n:=Gk;exact Nat.dvd_mul_left _ _
theorem Zx8(R:List (List Rat))(i j:Nat):(Zh R i j).den ∣ denAt R i:=by
 unfold Zh denAt;rcases Qj j (R[i]?.getD []).length with h|h;exact Zgn _ h;rw[Qf h];exact Nat.one_dvd _
theorem Zpn{q:Rat}{d:Nat}(h:q.den ∣ d):BndQ (d*q.num.natAbs) ((d:Nat)*q):=by
 obtain⟨c,rfl⟩:=h
 have e1:((q.den:Nat):Rat)≠0:=by
  intro h;have:q.den=0:=by exact_mod_cast h
  have:=q.den_pos;omega
 have e2:((q.den:Nat):Rat)*q=((q.num:Int):Rat):=by
  have e0:((q.num:Int):Rat)/((q.den:Nat):Rat)=q:=by have:=Qx q;rw[Rat.divInt_eq_div,Qw]at this;exact this
  have:((q.num:Int):Rat)/((q.den:Nat):Rat)*((q.den:Nat):Rat)=((q.num:Int):Rat):=by grind
  rw[e0]at this;rw[<- this];grind
 refine⟨(c:Int)*q.num,?_,?_⟩;rw[Rat.intCast_mul,<- e2,Qw,Rat.natCast_mul];grind;rw[Int.natAbs_mul,QH];exact Ql (Nat.le_mul_of_pos_left _ q.den_pos) (Qc _)
theorem Zkz{x:Int}(h:Zkm x=false):x.natAbs<=pw 2:=by
 unfold Zkm at h;rw[Bool.or_eq_false_iff]at h;have h1:=of_decide_eq_false h.1;have h2:=of_decide_eq_false h.2;have h3:1099511627776<=pw 2:=GY;omega
def Zfi(l:List Int):Prop:=∀ k,Zkm (gI l k)=false
section
variable{R:List (List Rat)}{n:Nat}{a b:List Int}
theorem Zrh(hS:SmE 4 R)(hn:n<=4)(hl:R.length=n)(hrow:∀ i,i<n->(R[i]?.getD []).length=n)(ha:Zfi a)(hb:Zfi b):0<byZ R n/\byZ R n<=pw 64/\∀ i k,i<n->k<=n->BndQ ((i*n+k)*pw 72) ((byZ R n:Nat)*imT (Zh R) n a b i k):=by
 have hD:byZ R n<=pw 64:=Qd (hS.byZ hrow n (Qc _)) (Zb1 (by
  have h1:4*n*n<=16*n:=Ql Gk (Qc _);omega))
 have f:∀ i k,i<n->BndQ (pw 72) ((byZ R n:Nat)*(Zh R i k*(gI a i:Rat)*(gI b k:Rat))):=λi k hi=>by
  have h1:=Zpn (Nat.dvd_trans (Zx8 R i k) (Zw5 R hi));have h2:BndQ (pw 2) (gI a i:Rat):=⟨gI a i,rfl,Zkz (ha i)⟩;have h3:BndQ (pw 2) (gI b k:Rat):=⟨gI b k,rfl,Zkz (hb k)⟩;have h4:=(h1.mul h2).mul h3;have e:((byZ R n:Nat):Rat)*(Zh R i k*(gI a i:Rat)*(gI b k:Rat))=((byZ R n:Nat):Rat)*Zh R i k*(gI a i:Rat)*(gI b k:Rat):=by grind
  rw[e];refine h4.mono ?_;have h5:byZ R n*(Zh R i k).num.natAbs<=pw 64*pw 4:=Ql hD (hS i k).1;have h6:byZ R n*(Zh R i k).num.natAbs*pw 2*pw 2<=pw 64*pw 4*pw 2*pw 2:=Ql (Ql h5 (Qc _)) (Qc _);rw[<- Zb8,<- Zb8,<- Zb8]at h6;exact h6
 refine⟨Zxi R n,hD,?_⟩
 have step:∀ i,i<n->BndQ (i*n*pw 72) ((byZ R n:Nat)*imT (Zh R) n a b i 0)->∀ k,k<=n->BndQ ((i*n+k)*pw 72) ((byZ R n:Nat)*imT (Zh R) n a b i k):=λi hi h0 k=>by
  induction k with
  | zero=>intro _;rw[Nat.add_zero];exact h0
  | succ k ih =>
   intro hk;have h1:=(ih Gk).add (f i k hi);rw[Zoe];have e:((byZ R n:Nat):Rat)*(imT (Zh R) n a b i k+Zh R i k*(gI a i:Rat)*(gI b k:Rat))=((byZ R n:Nat):Rat)*imT (Zh R) n a b i k+((byZ R n:Nat):Rat)*(Zh R i k*(gI a i:Rat)*(gI b k:Rat)):=by grind
   rw[e];refine h1.mono ?_;rw[<- Nat.succ_mul];exact Qc _
 have start:∀ i,i<n->BndQ (i*n*pw 72) ((byZ R n:Nat)*imT (Zh R) n a b i 0):=λi=>by
  induction i with
  | zero =>
   intro _;rw[Zsv];have e:((byZ R n:Nat):Rat)*0=0:=by grind
   rw[e];exact BndQ.zero.mono (Qc _)
  | succ i ih =>
   intro hi;rw[Zmi];have h1:=step i Gk (ih Gk) n (Qc _);refine h1.mono ?_;rw[<- Nat.succ_mul];exact Qc _
 exact λi k hi hk=>step i hi (start i hi) k hk
theorem Zw6(hS:SmE 4 R)(hn:n<=4)(hl:R.length=n)(hrow:∀ i,i<n->(R[i]?.getD []).length=n)(ha:Zfi a)(hb:Zfi b)(h0:0<n){i k:Nat}(hi:i<=n)(hk:k<=n)(hik:i=n->k=0):BndQ (pw 73) ((byZ R n:Nat)*imT (Zh R) n a b i k):=by
 have f:∀ x,x<=16->x*pw 72<=pw 73:=λx hx=>by
  have e:pw 73=4294967296*pw 72:=Zaz 72;rw[e];exact Nat.mul_le_mul_right _ Gk
 obtain⟨-,-,h⟩:=Zrh hS hn hl hrow ha hb;rcases Qj i n with h1|h1
 ·refine(h i k h1 hk).mono (f _ ?_)
  have h2:i*n<=3*4:=Ql Gk hn;omega
 obtain rfl:i=n:=Gk;rw[hik rfl];obtain⟨j,rfl⟩:∃ j,i=j+1:=⟨i-1,by omega⟩;rw[Zmi];refine(h j (j+1) Gk (Qc _)).mono (f _ ?_);have h2:j*(j+1)<=3*4:=Ql Gk hn;omega
theorem Zpb{D B:Nat}{q:Rat}(hD:0<D)(h:BndQ B ((D:Nat)*q)):q.num.natAbs<=B/\q.den<=D:=by
 have f:((D:Nat):Rat)≠0:=λe=>by
  have:D=0:=by exact_mod_cast e
  omega
 exact Ze2 h ⟨(D:Int),by rw[Qw],by simp⟩ f
theorem Z1v(hS:SmE 4 R)(hn:n<=4)(hl:R.length=n)(hrow:∀ i,i<n->(R[i]?.getD []).length=n)(ha:Zfi a)(hb:Zfi b)(h0:0<n){i k:Nat}(hi:i<=n)(hk:k<=n)(hik:i=n->k=0):Sm (imT (Zh R) n a b i k):=by
 obtain⟨d1,d2,-⟩:=Zrh hS hn hl hrow ha hb;obtain⟨h1,h2⟩:=Zpb d1 (Zw6 hS hn hl hrow ha hb h0 hi hk hik);exact⟨QI h1 (Zci Gj),QI (Qd h2 d2) (Zci Gj)⟩
def Zeb(Q:Nat->Nat->Rat)(n:Nat)(js:List (List Int))(a:List Int):List Rat:=js.map λb=>imT Q n a b n 0
def Zhp(Q:Nat->Nat->Rat)(n:Nat)(js:List (List Int)):List (List Rat):=js.map (Zeb Q n js)
theorem Zjl{Q:Nat->Nat->Rat}{js:List (List Int)}{a:List Int}:(Zeb Q n js a).length=js.length:=by simp[Zeb]
theorem Zfz{Q:Nat->Nat->Rat}{js:List (List Int)}:(Zhp Q n js).length=js.length:=by simp[Zhp]
theorem Z2t{Q:Nat->Nat->Rat}{js:List (List Int)}{i k:Nat}(hi:i<js.length)(hk:k<js.length):Zh (Zhp Q n js) i k=imT Q n (js[i]?.getD []) (js[k]?.getD []) n 0:=by
 unfold Zh Zhp Zeb;rw[Qi,Qa hi,Qs,Qg,Qi,Qa hk];rfl
theorem Ztb{Q:Nat->Nat->Rat}{js:List (List Int)}{i:Nat}(hi:i<js.length):((Zhp Q n js)[i]?.getD []).length=js.length:=by
 unfold Zhp;rw[Qi,Qa hi,Qs,Qg,Zjl]
theorem Zsw{Q:Nat->Nat->Rat}{js:List (List Int)}{a:List Int}{k:Nat}(hk:k<js.length):(Zeb Q n js a).take k ++ [imT Q n a (js[k]?.getD []) n 0]=(Zeb Q n js a).take (k+1):=by
 rw[Qq];unfold Zeb;exact Iw
theorem Zx4{Q:Nat->Nat->Rat}{js:List (List Int)}{k:Nat}(hk:k<js.length):(Zhp Q n js).take k ++ [Zeb Q n js (js[k]?.getD [])]=(Zhp Q n js).take (k+1):=by
 rw[Qq];unfold Zhp;exact Iw
theorem img_fac{js:List (List Int)}(hS:SmE 4 R)(hn:n<=4)(hl:R.length=n)(hrow:∀ i,i<n->(R[i]?.getD []).length=n)(h0:0<n)(hj:∀ a ∈ js,Zfi a)(hm:js.length<=4){rs:List RX}(hq:qM rs=Zhp (Zh R) n js)(hm0:rs.length=js.length):FacC rs:=λhV hs=>by
 obtain⟨d1,d2,-⟩:=Zrh (a:=[]) (b:=[]) hS hn hl hrow (λk=>by simp[gI,Zkm]) (λk=>by simp[gI,Zkm]);rw[hm0];refine FacP.unif (D:=byZ R n) (b:=73) (e:=64) (by rw[hq,Zfz]) Gk (λi hi=>by rw[hq];exact Ztb hi) (λi k hi hk=>symB_iff.1 hs i k (by rw[hq,Zfz];exact hi) (by rw[hq,Zfz];exact hk)) d1 d2 (λi j hi=>?_) Gk Gk;rcases Qj j js.length with h1|h1
 ·rw[hq,Z2t hi h1]
  have e1:Zfi (js[i]?.getD []):=by rw[Qa hi];exact hj _ (Qm _)
  have e2:Zfi (js[j]?.getD []):=by rw[Qa h1];exact hj _ (Qm _)
  exact Zw6 hS hn hl hrow e1 e2 h0 (Qc _) (QK _) (λ_=>rfl)
 have:Zh (qM rs) i j=0:=by
   unfold Zh;rw[Qf (by rw[hq,Ztb hi];exact h1)];rfl
 rw[this];have e:((byZ R n:Nat):Rat)*0=0:=by grind
 rw[e];exact BndQ.zero
end
theorem Zle(na nb:Bool)(A B:Option Addr)(n c m d:Nat)(za zb:Int)(w:World)(ha:Wd w na A n c za)(hb:Wd w nb B m d zb) :
    Calls Tryz.prog 119 #[.agg #[.bool na,.slice A n c],.agg #[.bool nb,.slice B m d]] w (ResW w (za+zb)):=by
 have be:=ha.lim;have aJ:=hb.lim;have hn:=ha.2.1;have hm:=hb.2.1;have y:∀ X Y Z V:Obj,Below w.heap.size w ((((w.alloc X).alloc Y).alloc Z).alloc V):=λX Y Z V=>((((Qn w.heap.size w).alloc (Qc _) _).alloc Gh _).alloc Gg _).alloc Gg _
 have hW:∀ X Y Z t,WL ((((w.alloc X).alloc Y).alloc Z).alloc (.cells #[.bool na,.slice A n c,.bool nb,.slice B m d] t)) (some ⟨w.heap.size+1+1+1,0,none⟩) 2 2 [⟨na,A,n,c,digits za.natAbs⟩,⟨nb,B,m,d,digits zb.natAbs⟩]:=λX Y Z t=>by
  exact Cg
 have hW:=Za hW;have y:=Za y;have u:Hid (okW na (digits za.natAbs)=true/\okW nb (digits zb.natAbs)=true):=⟨ha.ok,hb.ok⟩;have U:=Za ha.sgEq;have a0:=Za hb.sgEq;clear ha hb;go_in;go_wp2_with fail;refine(Zdk (hW.out _ _ _ _) (by have:=u.out;simp[WE.ok,this])).mono ?_;rintro e w1 ⟨rfl,ab⟩;obtain⟨f,T⟩:=Zcy ab;have a1:w.heap.size+1+1+1<w1.heap.size:=by have:=ab.size;simp at this;omega
 have h:Below w.heap.size w w1:=(y.out _ _ _ _).trans (ab.mono Gg);have g0:w1.cell? ⟨w.heap.size,0,none⟩=some (.bool na):=by simp[f,go_sem]
 have g1:w1.cell? ⟨w.heap.size,1,none⟩=some (.slice A n c):=by simp[f,go_sem]
 have g2:w1.cell? ⟨w.heap.size+1,0,none⟩=some (.bool nb):=by simp[f,go_sem]
 have g3:w1.cell? ⟨w.heap.size+1,1,none⟩=some (.slice B m d):=by simp[f,go_sem]
 have gf:w1.frozen? ⟨w.heap.size+1,0,none⟩=false:=by simp[T,go_sem]
 have gB:Blk w1 (w.heap.size+1) 39 #[.bool nb,.slice B m d]:=by
  exact Cc
 have g7:Blk w1 (w.heap.size+1+1) 39 #[.bool false,.slice none 0 0]:=by
  refine Zc ab (Blk.alloc ?_ _);exact Ev
 have I:=be.below h;have C:=aJ.below h;have HB:=Za gB;clear gB f T;go_wp2_with fail;refine(Zxx _ _ _ _ _ _ _ _ _ _ _ (by exact I) (by exact C) hn hm).mono ?_;rintro e w2 ⟨O,J,A2,n2,c2,o,rfl,dL⟩;have aq:Below w.heap.size w w2:=Gs h O;have m7:=Zc O g7;have m3:=m7.cell 0;have m4:=m7.cell 1;have m5:=m7.frozen 0;have m6:=m7.frozen 1;simp at m3 m4;have HM:=Za m7;clear m7;go_wp2_with fail
 have HZ:sg na za.natAbs+sg nb zb.natAbs=za+zb:=by
  have h1:=U.out;have h2:=a0.out;rw[Zi]at h1 h2;rw[h1,h2]
 refine bodyPost_ret (v:=.tuple #[.agg #[.bool J,.slice A2 n2 c2],.int .i64 o]) (by simp[results,Tryz.results119,go_sem,m3,m4]) rfl ?_;exact Fh
theorem sm_addA{x y z v:Int}(hx:x.natAbs<pw 1000)(hy:y.natAbs<pw 1000)(hz:z.natAbs<pw 1000)(hv:v.natAbs<pw 1000):(x*y+z*v).natAbs<pw 4096:=by
 exact IM
theorem Z1n(a b:Rat):Qt (a.num*b.den+b.num*a.den) ((a.den:Int)*(b.den:Nat))=a+b:=by
 have ha:((a.den:Nat):Int)≠0:=by have:=a.den_pos;omega
 have hb:((b.den:Nat):Int)≠0:=by have:=b.den_pos;omega
 rw[<- Rat.divInt_add_divInt _ _ ha hb,Qx,Qx]
theorem Zvj(x y:Value)(W:World):(callFunc 159 #[x,y]).run Tryz.prog W=.ok (.enter 159 #[x,y]) W:=by simp[go_sem]
theorem Add1_ok(na nb na' nb':Bool)(A B A' B':Option Addr)(n c m d n' c' m' d':Nat)(a b:Rat)(w:World)(ha:Fr w na A n c nb B m d a)(hb:Fr w na' A' n' c' nb' B' m' d' b)
    (h1:(a.num*b.den).natAbs<pw 4096) (h2:(b.num*a.den).natAbs<pw 4096) (hs:(a.num*b.den+b.num*a.den).natAbs<pw 4096) (ht:((a.den:Int)*(b.den:Nat)).natAbs<pw 4096) :
    Calls Tryz.prog 159 #[.agg #[.bool na,.slice A n c,.bool nb,.slice B m d],.agg #[.bool na',.slice A' n' c',.bool nb',.slice B' m' d']] w (Zpk w (a.num*b.den+b.num*a.den) ((a.den:Int)*(b.den:Nat))):=by
 obtain⟨W0,Y,T,⟨q0,q1,q2,q3⟩,s0⟩:=Zfu w 41 #[.bool na,.slice A n c,.bool nb,.slice B m d] 41 #[.bool na',.slice A' n' c',.bool nb',.slice B' m' d'] 39 #[.bool false,.slice none 0 0] 39 #[.bool false,.slice none 0 0];have hmx:=Gt;have hA:=Za (ha.below T);have hD:=Za (hb.below T);replace hs:=Za hs;replace ht:=Za ht;replace h1:=Za h1;replace h2:=Za h2;have sz:=Za T.size;have hB:=Za T;clear ha hb T s0;replace q0:=Za q0;replace q1:=Za q1;replace q2:=Za q2;replace q3:=Za q3;obtain⟨a0,a1,a2,a3,-⟩:=q0.out.four;obtain⟨b0,b1,b2,b3,-⟩:=q1.out.four;replace Y:=Za Y;go_in;go_wp2_with fail;rw[Y.out];clear Y;refine Zz [19] (λW'=>W'.cell? ⟨w.heap.size,0,none⟩=some (.bool na)/\W'.cell? ⟨w.heap.size,1,none⟩=some (.slice A n c)/\W'.cell? ⟨w.heap.size,2,none⟩=some (.bool nb)/\W'.cell? ⟨w.heap.size,3,none⟩=some (.slice B m d)/\W'.cell? ⟨w.heap.size+1,0,none⟩=some (.bool na')/\W'.cell? ⟨w.heap.size+1,1,none⟩=some (.slice A' n' c')/\W'.cell? ⟨w.heap.size+1,2,none⟩=some (.bool nb')/\W'.cell? ⟨w.heap.size+1,3,none⟩=some (.slice B' m' d')) hmx ⟨a0,a1,a2,a3,b0,b1,b2,b3⟩ (λ_=>?_);refine Zke 8 [0,1,3,4,10,11,12,13] rfl Gi ⟨a0,a1,a2,a3,b0,b1,b2,b3⟩ ?_
 iterate 8 (refine tkA ?_;try simp only[Qh,Zhf,Zgs,Zg9,Gr,Gq,Gp])
 refine tk0 ?_;refine wpAnyL_o 2 λK hK=>?_;go_simp;refine(Zfg na nb na' nb' A B A' B' n c m d n' c' m' d' a b W0.drew hA.out hD.out h1.out).mono ?_;rintro e w1 ⟨h,nu,U,k1,u,rfl,hU⟩;replace h:=Zt h;replace hU:=Za hU;replace q0:=Gm h q0;replace q1:=Gm h q1;replace q2:=Gm h q2;replace q3:=Gm h q3;replace hA:=Za (hA.out.below h);replace hD:=Za (hD.out.below h);replace hB:=Za (hB.out.trans (h.mono sz.out));replace sz:=Za (Qd sz.out h.size);clear a0 a1 a2 a3 b0 b1 b2 b3;obtain⟨a0,a1,a2,a3,-⟩:=q0.out.four;obtain⟨b0,b1,b2,b3,-⟩:=q1.out.four;clear h;refine hK.out _ _ (λ_=>⟨a0,a1,a2,a3,b0,b1,b2,b3⟩) ?_;clear hK K
 try simp only[Qh,Zhf,Zgs,Zg9]
 refine wpAnyL_o 5 λK hK=>?_;go_simp;refine(Zfg na' nb' na nb A' B' A B n' c' m' d' n c m d b a w1 hD.out hA.out h2.out).mono ?_;rintro e w2 ⟨y,nv,V,k2,v,rfl,hV⟩;replace hU:=Za (hU.out.below y);replace hV:=Za hV;replace q0:=Gm y q0;replace q1:=Gm y q1;replace q2:=Gm y q2;replace q3:=Gm y q3;replace hA:=Za (hA.out.below y);replace hD:=Za (hD.out.below y);replace hB:=Za (hB.out.trans (y.mono sz.out));replace sz:=Za (Qd sz.out y.size);clear a0 a1 a2 a3 b0 b1 b2 b3;obtain⟨a0,a1,a2,a3,-⟩:=q0.out.four;obtain⟨b0,b1,b2,b3,-⟩:=q1.out.four;clear y;refine hK.out _ _ (λ_=>⟨a0,a1,a2,a3,b0,b1,b2,b3⟩) ?_;clear hK K
 try simp only[Qh,Zhf,Zgs,Zg9]
 refine wpAnyL_o 6 λK hK=>?_;go_simp;refine(Zle nu nv U V k1 u k2 v _ _ w2 hU.out hV.out).mono ?_;rintro e w3 ⟨I,np,P,k,q,code,rfl,hR⟩;have hP:=Za (hR.small hs.out);have O:=hR.code0 hs.out;subst O;clear hs hR hU hV;replace q0:=Gm I q0;replace q1:=Gm I q1;replace q2:=Gm I q2;replace q3:=Gm I q3;replace hA:=Za (hA.out.below I);replace hD:=Za (hD.out.below I);replace hB:=Za (hB.out.trans (I.mono sz.out));replace sz:=Za (Qd sz.out I.size);clear a0 a1 a2 a3 b0 b1 b2 b3;obtain⟨a0,a1,a2,a3,-⟩:=q0.out.four;obtain⟨b0,b1,b2,b3,-⟩:=q1.out.four;clear I;refine hK.out _ _ (λ_=>⟨a0,a1,a2,a3,b0,b1,b2,b3⟩) ?_;clear hK K
 try simp only[Qh,Zhf,Zgs,Zg9]
 refine Zke 2 [7,8] rfl Gi ⟨a0,a1,a2,a3,b0,b1,b2,b3⟩ ?_
 iterate 2 (refine tkA ?_;try simp only[Qh,Zhf,Zgs,Zg9,Gr,Gq,Gp])
 refine tk0 ?_;refine wpAnyL_o 9 λK hK=>?_;go_simp;refine(Zd0 np P k q w3).mono ?_;rintro e w4 ⟨rfl,C⟩;replace hP:=Za (hP.out.below C);replace q0:=Gm C q0;replace q1:=Gm C q1;replace q2:=Gm C q2;replace q3:=Gm C q3;replace hA:=Za (hA.out.below C);replace hD:=Za (hD.out.below C);replace hB:=Za (hB.out.trans (C.mono sz.out));replace sz:=Za (Qd sz.out C.size);clear a0 a1 a2 a3 b0 b1 b2 b3;obtain⟨a0,a1,a2,a3,-⟩:=q0.out.four;obtain⟨b0,b1,b2,b3,-⟩:=q1.out.four;clear C;refine hK.out _ _ (λ_=>⟨a0,a1,a2,a3,b0,b1,b2,b3⟩) ?_;clear hK K
 try simp only[Qh,Zhf,Zgs,Zg9]
 refine wpAnyL_o 14 λK hK=>?_;go_simp;refine(Zjh nb nb' B B' m d m' d' a.den b.den w4 hA.out.2 hD.out.2).mono ?_;rintro e w5 ⟨o,a4,P',k',q',code,rfl,hR⟩;replace hP:=Za (hP.out.below o);have J:=Za (hR.small ht.out);have O:=hR.code0 ht.out;subst O;clear ht hR;replace q0:=Gm o q0;replace q1:=Gm o q1;replace q2:=Gm o q2;replace q3:=Gm o q3;replace hA:=Za (hA.out.below o);replace hD:=Za (hD.out.below o);replace hB:=Za (hB.out.trans (o.mono sz.out));replace sz:=Za (Qd sz.out o.size);clear a0 a1 a2 a3 b0 b1 b2 b3;obtain⟨a0,a1,a2,a3,-⟩:=q0.out.four;obtain⟨b0,b1,b2,b3,-⟩:=q1.out.four;clear o;refine hK.out _ _ (λ_=>⟨a0,a1,a2,a3,b0,b1,b2,b3⟩) ?_;clear hK K
 try simp only[Qh,Zhf,Zgs,Zg9]
 refine Zke 2 [15,16] rfl Gi ⟨a0,a1,a2,a3,b0,b1,b2,b3⟩ ?_
 iterate 2 (refine tkA ?_;try simp only[Qh,Zhf,Zgs,Zg9,Gr,Gq,Gp])
 refine tk0 ?_;refine wpAnyL_o 17 λK hK=>?_;go_simp;refine(Zd0 a4 P' k' q' w5).mono ?_;rintro e w6 ⟨rfl,f⟩;replace hP:=Za (hP.out.below f);replace J:=Za (J.out.below f);replace q0:=Gm f q0;replace q1:=Gm f q1;replace q2:=Gm f q2;replace q3:=Gm f q3;replace hA:=Za (hA.out.below f);replace hD:=Za (hD.out.below f);replace hB:=Za (hB.out.trans (f.mono sz.out));replace sz:=Za (Qd sz.out f.size);clear a0 a1 a2 a3 b0 b1 b2 b3;obtain⟨a0,a1,a2,a3,-⟩:=q0.out.four;obtain⟨b0,b1,b2,b3,-⟩:=q1.out.four;clear f;obtain⟨x0,x1,f0,f1⟩:=q2.out.two;refine hK.out _ _ (λ_=>⟨a0,a1,a2,a3,b0,b1,b2,b3⟩) ?_;clear hK K
 try simp only[Qh,Zhf,Zgs,Zg9]
 refine wpAnyL_o 18 λK hK=>?_;go_simp;obtain⟨W5,a7,a8,a5,kW,kB,s5⟩:=Za0 np P k q hB.out Gk q2.out;rw[a7];clear a7 x0 x1 f0 f1 a0 a1 a2 a3 b0 b1 b2 b3 hA hD;replace q0:=kB _ _ _ Gk q0.out;replace q1:=kB _ _ _ Gk q1.out;obtain⟨a0,a1,a2,a3,-⟩:=q0.four;obtain⟨b0,b1,b2,b3,-⟩:=q1.four;replace q3:=Za (kB _ _ _ Gk q3.out);replace hP:=Za (kW _ _ _ _ _ hP.out);replace J:=Za (kW _ _ _ _ _ J.out);clear kW kB q2 hB q0 q1;obtain⟨y0,y1,g0,g1⟩:=q3.out.two;refine hK.out _ _ (λ_=>⟨a0,a1,a2,a3,b0,b1,b2,b3⟩) ?_;clear hK K
 try simp only[Qh,Zhf,Zgs,Zg9]
 refine Zu (i:=19) rfl Gi Gi (λK hK=>?_);go_simp;obtain⟨W6,a6,b4,a9,kW,kB,s6⟩:=Za0 a4 P' k' q' a8 Gk q3.out;rw[a6];clear a6 y0 y1 g0 g1 a0 a1 a2 a3 b0 b1 b2 b3;replace a5:=kB _ _ _ Gk a5;replace hP:=Za (kW _ _ _ _ _ hP.out);replace J:=Za (kW _ _ _ _ _ J.out);clear kW kB q3 a8;refine hK.out _ _ ?_;clear hK K
 try simp only[Qh,Zhf,Zgs,Zg9]
 refine wpAnyL_fin ?_;obtain⟨r0,r1,-⟩:=a5.two;obtain⟨r2,r3,-⟩:=a9.two;go_wp2_with fail;refine bodyPost_ret (v:=.tuple #[.agg #[.bool np,.slice P k q],.agg #[.bool a4,.slice P' k' q']]) (by simp[results,Tryz.results159,go_sem,r0,r1,r2,r3]) rfl ?_;exact⟨b4,_,_,_,_,_,_,_,_,rfl,hP.out,J.out⟩
theorem fAdd_ok(na nb na' nb':Bool)(A B A' B':Option Addr)(n c m d n' c' m' d':Nat)(a b:Rat)(w:World)(ha:Fr w na A n c nb B m d a)(hb:Fr w na' A' n' c' nb' B' m' d' b)(sa:Sm a)(sb:Sm b) :
    Calls Tryz.prog 115 #[.agg #[.bool na,.slice A n c,.bool nb,.slice B m d],.agg #[.bool na',.slice A' n' c',.bool nb',.slice B' m' d']] w (Zet w (a+b)):=by
 obtain⟨W0,u,f,⟨q0,q1,q2⟩,s0⟩:=Zb0 w 41 #[.bool na,.slice A n c,.bool nb,.slice B m d] 41 #[.bool na',.slice A' n' c',.bool nb',.slice B' m' d'] 41 #[.bool false,.slice none 0 0,.bool false,.slice none 0 0];have hA:=Za (ha.below f);have hD:=Za (hb.below f);have hF:=λ(W:World) (h1:Fr W na A n c nb B m d a) (h2:Fr W na' A' n' c' nb' B' m' d' b)=>Add1_ok na nb na' nb' A B A' B' n c m d n' c' m' d' a b W h1 h2 (Zbs sa.1 sb.dn) (Zbs sb.1 sa.dn) (sm_addA sa.1 sb.dn sb.1 sa.dn) (Zbs sa.dn sb.dn);have hG:=Za (Zq3 159 na nb na' nb' A B A' B' n c m d n' c' m' d' a b _ _ W0 hA.out hD.out (Zck a b) Zvj hF);rw[Z1n]at hG;clear hF ha hb sa sb hA hD;obtain⟨a0,a1,a2,a3,-⟩:=q0.four;obtain⟨b0,b1,b2,b3,-⟩:=q1.four;replace q2:=Za q2;clear q0 q1;go_in;go_wp2_with fail;refine hG.out.mono ?_;rintro e w1 ⟨h,nx,Ax,kx,cx,ny,Ay,ky,cy,rfl,hX⟩;have o:Below w.heap.size w w1:=Gs f h;have s1:W0.heap.size<=w1.heap.size:=h.size;replace q2:=Gm h q2;replace hX:=Za hX;clear h a0 a1 a2 a3 b0 b1 b2 b3 f hG u;obtain⟨Y,U,V,T,O,C,J,I⟩:=q2.out.four;go_wp2_with fail;obtain⟨W5,y,aG,q2,kW,-,s5⟩:=Z7 nx Ax kx cx ny Ay ky cy o Gk q2.out;rw[y];obtain⟨r0,r1,r2,r3,-⟩:=q2.four;refine bodyPost_ret (v:=.tuple #[.agg #[.bool nx,.slice Ax kx cx,.bool ny,.slice Ay ky cy],.int .i64 0]) (by simp[results,Tryz.results115,go_sem,r0,r1,r2,r3]) rfl ?_;exact FY
theorem Em{G:Prop}(h:G:=by
 have ab:Blk (w.setCell ⟨g,0,none⟩ (.bool na)) g t #[.bool na,.slice A0 n0 c0,.bool b0,.slice B0 m0 d0]:=hb.set_ 0 (.bool na);have aa:Blk ((w.setCell ⟨g,0,none⟩ (.bool na)).setCell ⟨g,1,none⟩ (.slice A n c)) g t #[.bool na,.slice A n c,.bool b0,.slice B0 m0 d0]:=ab.set_ 1 (.slice A n c);have ah:Blk (((w.setCell ⟨g,0,none⟩ (.bool na)).setCell ⟨g,1,none⟩ (.slice A n c)).setCell ⟨g,2,none⟩ (.bool nb)) g t #[.bool na,.slice A n c,.bool nb,.slice B0 m0 d0]:=aa.set_ 2 (.bool nb);have cP:Blk ((((w.setCell ⟨g,0,none⟩ (.bool na)).setCell ⟨g,1,none⟩ (.slice A n c)).setCell ⟨g,2,none⟩ (.bool nb)).setCell ⟨g,3,none⟩ (.slice B m d)) g t #[.bool na,.slice A n c,.bool nb,.slice B m d]:=ah.set_ 3 (.slice B m d);have k0:Kept (λk=>k=g) w w:=Kept.refl _ _;exact⟨_,rfl,cP,(((k0.set_ (p:=⟨g,0,none⟩) (.inl rfl) _).set_ (p:=⟨g,1,none⟩) (.inl rfl) _).set_ (p:=⟨g,2,none⟩) (.inl rfl) _).set_ (p:=⟨g,3,none⟩) (.inl rfl) _,by simp⟩):G:=h
theorem Zau{t:TypeId}{w:World}{g:Nat}{a0:Bool}{A0:Option Addr}{n0 c0:Nat}{b0:Bool}{B0:Option Addr}{m0 d0:Nat}(na:Bool)(A:Option Addr)(n c:Nat)(nb:Bool)(B:Option Addr)(m d:Nat)(hb:Blk w g t #[.bool a0,.slice A0 n0 c0,.bool b0,.slice B0 m0 d0]) :
    ∃ W,(((w.setCell ⟨g,0,none⟩ (.bool na)).setCell ⟨g,1,none⟩ (.slice A n c)).setCell ⟨g,2,none⟩ (.bool nb)).setCell ⟨g,3,none⟩ (.slice B m d)=W/\Blk W g t #[.bool na,.slice A n c,.bool nb,.slice B m d]/\Kept (λk=>k=g) w W/\W.heap.size=w.heap.size:=by
 exact Em
theorem Fr.keptN{w w':World}{na:Bool}{A:Option Addr}{n c:Nat}{nb:Bool}{B:Option Addr}{m d:Nat}{r:Rat}{g:Nat}{t:TypeId}{cs:Array Value}(h:Fr w na A n c nb B m d r)(hk:Kept (λk=>k=g) w w')(hb:Blk w g t cs)(hn:NoLimb cs):Fr w' na A n c nb B m d r:=
 ⟨hk.wd h.1 (λk e=>by cases e;exact⟨_,_,hb,hn⟩),hk.wd h.2 (λk e=>by cases e;exact⟨_,_,hb,hn⟩)⟩
theorem Za6(a:Bool)(A:Option Addr)(n c:Nat)(b:Bool)(B:Option Addr)(m d:Nat):NoLimb #[.bool a,.slice A n c,.bool b,.slice B m d]:=λi x=>by
 match i with
 | 0=>simp
 | 1=>simp
 | 2=>simp
 | 3=>simp
 | i+4=>simp
theorem Zbi(x:Int)(w:World) :
    Calls Tryz.prog 40 #[.bool true,.int .i64 x] w λe w'=>e=.returned (.tuple #[])/\w'=w:=by
 go_in;go_wp2_with fail
 go_end0
 exact⟨rfl,rfl⟩
theorem Zai(x:Int)(w:World) :
    Calls Tryz.prog 40 #[.bool false,.int .i64 x] w λe w'=>e=.panicked [{ v:=.iface 117 (.agg #[.int .i64 x]),recovered:=false }]/\w'=w:=by
 go_in;go_wp2_with fail;exact⟨rfl,rfl,rfl⟩
theorem Zdv(p:Addr)(w:World) :
    CallsD Tryz.prog 39 #[.pointer (some p)] .returning w λe u' w'=>e=.returned (.tuple #[])/\u'=.returning/\w'=w:=by
 refine callsD_of_wpS Tryz.func39 rfl λc₀ cs hu=>?_;apply wpS_seq;apply wpS_region;simp[wpOpsS,go_sem,recoverD,hu,Tryz.ntmps39,Exit.thenS];rw[show (#[Value.pointer (some p)]++(QQ 14 undef).setIfInBounds 4 Value.nilIface)=#[Value.pointer (some p),undef,undef,undef,undef,Value.nilIface,undef,undef,undef,undef,undef,undef,undef,undef,undef] from rfl];refine wpS_of_wp ?_;go_wp2_with fail;cases c₀
 simp_all [bodyPostS,results,Tryz.results39]
theorem Z1r(x:Int)(w:World):(Instr.typeAssert (.iface 117 (.agg #[.int .i64 x])) 20 117 true).run Tryz.prog w=.ok (.tuple #[.agg #[.int .i64 x],.bool true]) w:=by kernel_rfl
theorem Zae(p:Addr)(x y:Int)(w:World)(hc:w.cell? p=some (.int .i64 y))(hz:w.frozen? p=false) :
    CallsD Tryz.prog 39 #[.pointer (some p)] (.panicking [{ v:=.iface 117 (.agg #[.int .i64 x]),recovered:=false }]) w λe u' w' =>
     e=.returned (.tuple #[])/\u'=.panicking [{ v:=.iface 117 (.agg #[.int .i64 x]),recovered:=true }]/\w'=(w.alloc (.cells #[.int .i64 x] 117)).setCell p (.int .i64 x):=by
 have f:=Zo hc;have o:(w.alloc (.cells #[.int .i64 x] 117)).cell? p=some (.int .i64 y):=by rw[World.cell?_alloc_lt _ _ _ f];exact hc
 have h:(w.alloc (.cells #[.int .i64 x] 117)).frozen? p=false:=by exact((Qn w.heap.size w).alloc (Qc _) _ |>.frozen f).trans hz
 have u:=Z1r x;refine callsD_of_wpS Tryz.func39 rfl λc₀ cs hu=>?_;apply wpS_seq;apply wpS_region;simp[wpOpsS,go_sem,recoverD,hu,Tryz.ntmps39,Exit.thenS];rw[show (#[Value.pointer (some p)]++(QQ 14 undef).setIfInBounds 4 (Value.iface 117 (.agg #[.int .i64 x])))=#[Value.pointer (some p),undef,undef,undef,undef,Value.iface 117 (.agg #[.int .i64 x]),undef,undef,undef,undef,undef,undef,undef,undef,undef] from rfl];refine wpS_of_wp ?_;go_wp2_with fail;simp[bodyPostS,results,Tryz.results39]
theorem Zga(na nb:Bool)(A B:Option Addr)(n c m d:Nat)(q:Rat)(w:World)(h:Fr w na A n c nb B m d q) :
    Calls Tryz.prog 84 #[.agg #[.bool na,.slice A n c,.bool nb,.slice B m d],.int .i64 0] w (Zdl w q):=by
 obtain⟨W0,y,o,⟨q0,q1⟩,s0⟩:=Zef w 41 #[.bool na,.slice A n c,.bool nb,.slice B m d] 73 #[.bool false,.slice none 0 0,.bool false,.slice none 0 0];obtain⟨a0,a1,a2,a3,-⟩:=q0.four;obtain⟨gR,u⟩:=Gz (w.heap.size+1);rw[u]at q1;have h0:=h.below o;go_in;go_wp2_with fail;(try rw[y]);refine(Zbi 0 W0).mono ?_;rintro e w1 ⟨rfl,rfl⟩;(try rw[u]);obtain⟨c0,c1,c2,c3,z0,z1,z2,z3⟩:=q1.four;obtain⟨W5,C,q5,f,s5⟩:=Zau na A n c nb B m d q1;go_wp2_with fail;(try rw[C]);obtain⟨r0,r1,r2,r3,-⟩:=q5.four;refine bodyPost_ret (v:=.agg #[.bool na,.slice A n c,.bool nb,.slice B m d]) (by simp[results,Tryz.results84,go_sem,r0,r1,r2,r3]) rfl ?_;refine⟨?_,_,_,_,_,_,_,_,_,rfl,h0.keptN f q1 (Za6 _ _ _ _ _ _ _ _)⟩;exact o.trans (f.to_below (λk e=>by omega) Gk)
theorem Fg{G:Prop}(h:G:=by
 have aq:=aw.trans ((Gs ab aa).mono aw.size);exact aq.trans (aQ.to_below (λk e=>by omega) aq.size)):G:=h
theorem CB{G:Prop}(h:G:=by
 refine⟨?_,_,_,_,_,_,_,_,_,rfl,hr.keptN aQ q2 (Za6 _ _ _ _ _ _ _ _)⟩;exact Fg):G:=h
theorem Ze4(na nb na' nb':Bool)(A B A' B':Option Addr)(n c m d n' c' m' d':Nat)(a b:Rat)(w:World)(ha:Fr w na A n c nb B m d a)(hb:Fr w na' A' n' c' nb' B' m' d' b)(sa:Sm a)(sb:Sm b) :
    Calls Tryz.prog 71 #[.agg #[.bool na,.slice A n c,.bool nb,.slice B m d],.agg #[.bool na',.slice A' n' c',.bool nb',.slice B' m' d']] w (Zdl w (a-b)):=by
 obtain⟨W0,h,aw,⟨q0,q1,q2⟩,s0⟩:=Zb0 w 73 #[.bool na,.slice A n c,.bool nb,.slice B m d] 73 #[.bool na',.slice A' n' c',.bool nb',.slice B' m' d'] 73 #[.bool false,.slice none 0 0,.bool false,.slice none 0 0];obtain⟨a0,a1,a2,a3,-⟩:=q0.four;obtain⟨b0,b1,b2,b3,-⟩:=q1.four;obtain⟨gR,f⟩:=Gz (w.heap.size+1+1);rw[f]at q2;have hA:=ha.below aw;have hD:=hb.below aw;go_in;go_wp2_with fail;(try rw[h]);refine(Zxu na nb na' nb' A B A' B' n c m d n' c' m' d' a b W0 hA hD sa sb).mono ?_;rintro e w1 ⟨ab,pn,pA,pk,pc,pm,pB,pj,pd,rfl,hf⟩;replace q2:=Zc ab q2;clear a0 a1 a2 a3 b0 b1 b2 b3 q0 q1 hA hD;go_wp2_with fail;refine(Zga pn pm pA pB pk pc pj pd _ w1 hf).mono ?_;rintro e w2 ⟨aa,rn,rA,rk,rc,rm,rB,rj,rd,rfl,hr⟩;replace q2:=Zc aa q2;(try rw[f]);obtain⟨c0,c1,c2,c3,z0,z1,z2,z3⟩:=q2.four;obtain⟨W5,o,q5,aQ,s5⟩:=Zau rn rA rk rc rm rB rj rd q2;clear hf;go_wp2_with fail;(try rw[o]);obtain⟨r0,r1,r2,r3,-⟩:=q5.four;refine bodyPost_ret (v:=.agg #[.bool rn,.slice rA rk rc,.bool rm,.slice rB rj rd]) (by simp[results,Tryz.results71,go_sem,r0,r1,r2,r3]) rfl ?_;exact CB
theorem FG{G:Prop}(h:G:=by
 have h:=Rat.num_divInt_den ((z:Int):Rat);rw[Rat.num_intCast,Rat.den_intCast]at h;exact h):G:=h
theorem Zui(z:Int):Qt z 1=(z:Rat):=by
 exact FG
theorem Zjo(z:Int)(w:World)(h1:-9223372036854775808<=z)(h2:z<=9223372036854775807) :
    Calls Tryz.prog 44 #[.int .i64 z] w (Zdl w (z:Rat)):=by
 obtain⟨W0,h,aw,q0,s0⟩:=Zam w 73 #[.bool false,.slice none 0 0,.bool false,.slice none 0 0];obtain⟨gR,f⟩:=Gz w.heap.size;rw[f]at q0;go_in;go_wp2_with fail;(try rw[h]);refine(Zr3 z 1 W0 h1 h2 Gj Gj).mono ?_;rw[Zui];rintro e w1 ⟨ab,pn,pA,pk,pc,pm,pB,pj,pd,rfl,hf⟩;replace q0:=Zc ab q0;go_wp2_with fail;refine(Zga pn pm pA pB pk pc pj pd _ w1 hf).mono ?_;rintro e w2 ⟨aa,rn,rA,rk,rc,rm,rB,rj,rd,rfl,hr⟩;replace q0:=Zc aa q0;(try rw[f]);obtain⟨c0,c1,c2,c3,z0,z1,z2,z3⟩:=q0.four;obtain⟨W5,o,q5,aQ,s5⟩:=Zau rn rA rk rc rm rB rj rd q0;clear hf;go_wp2_with fail;(try rw[o]);obtain⟨r0,r1,r2,r3,-⟩:=q5.four;refine bodyPost_ret (v:=.agg #[.bool rn,.slice rA rk rc,.bool rm,.slice rB rj rd]) (by simp[results,Tryz.results44,go_sem,r0,r1,r2,r3]) rfl ?_;refine⟨?_,_,_,_,_,_,_,_,_,rfl,hr.keptN aQ q0 (Za6 _ _ _ _ _ _ _ _)⟩;exact Fg
theorem Z0k(z:Int)(w:World) :
    Calls Tryz.prog 161 #[.int .i64 z,.int .i64 0] w λe w'=>e=.returned (.int .i64 z)/\w'=w:=by
 go_in;go_wp2_with fail;refine(Zbi 0 w).mono ?_;rintro e w1 ⟨rfl,rfl⟩;go_wp2_with fail;go_returns;exact⟨rfl,rfl⟩
theorem Z0f(na:Bool)(A:Option Addr)(n c:Nat)(z:Int)(w:World)(hz:Wd w na A n c z) :
    Calls Tryz.prog 162 #[.agg #[.bool na,.slice A n c]] w λe w'=>e=.returned (.tuple #[.int .i64 (Zdb z 0),.int .i64 0])/\Below w.heap.size w w':=by
 obtain⟨r,hr⟩:=Gz (Zdb z 0);rw[hr];obtain⟨W0,o,hB,q,sz⟩:=Zam w 39 #[.bool na,.slice A n c];replace hz:=Za (hz.below hB);obtain⟨s0,s1,-,-⟩:=q.two;go_in;go_wp2_with fail;refine(Zr0 na false A none n c 0 0 z 0 W0 hz.out (Wd.zero _)).mono ?_;rintro e w1 ⟨rfl,h⟩;have f:=Gs hB h;rw[hr];replace hr:=Za hr;go_wp2_with fail;go_returns;exact⟨rfl,f⟩
theorem Zid(xn:Bool)(xA:Option Addr)(xk xc:Nat)(xm:Bool)(xB:Option Addr)(xj xd:Nat)(q:Rat)(w:World)(h:Fr w xn xA xk xc xm xB xj xd q) :
    Calls Tryz.prog 118 #[.agg #[.bool xn,.slice xA xk xc,.bool xm,.slice xB xj xd]] w λe w'=>e=.returned (.int .i64 (Zdb q.num 0))/\Below w.heap.size w w':=by
 obtain⟨W0,o,f,q0,s0⟩:=Zam w 73 #[.bool xn,.slice xA xk xc,.bool xm,.slice xB xj xd];obtain⟨a0,a1,a2,a3,-⟩:=q0.four;have hX:=h.below f;go_in;go_wp2_with fail;(try rw[o]);refine(Z0f xn xA xk xc q.num W0 hX.1).mono ?_;rintro e w1 ⟨rfl,u⟩;go_wp2_with fail;refine(Z0k _ w1).mono ?_;rintro e w2 ⟨rfl,rfl⟩;go_wp2_with fail;go_returns;exact⟨rfl,Gs f u⟩
def Zhk(a:Rat)(qs:List Rat):Nat->Rat
 | 0=>a
 | j+1=>Zhk a qs j*(qs[j]?.getD 0)
def Zuq(qs:List Rat):Nat->Rat
 | 0=>0
 | j+1=>Zuq qs j+(qs[j]?.getD 0)
theorem Cz{G:Prop}(h:G:=by
 exact cE.trans (aQ.to_below (λk e=>by omega) (by have:=cE.size;have:=hK.size;omega))):G:=h
theorem IP{G:Prop}(h:G:=by
 go_roundg (k-(i+1))
 case measure=>omega
 case rel=>exact⟨i+1,_,_,_,_,_,_,_,_,by omega,by go_num,q5,ip,ir⟩):G:=h
theorem Zcf(an:Bool)(aA:Option Addr)(ak ac:Nat)(am:Bool)(aB:Option Addr)(aj ad:Nat)(a:Rat)(L:Option Addr)(k cap:Nat)(qs:List Rat)(w:World)(ha:Fr w an aA ak ac am aB aj ad a)(hl:FL w L k cap qs)(hk:k<=100)(hs:∀ j,j<k->Sm (Zhk a qs j))(he:∀ j:Nat,j<k->Sm (qs[j]?.getD 0)) :
    Calls Tryz.prog 45 #[.agg #[.bool an,.slice aA ak ac,.bool am,.slice aB aj ad],.slice L k cap] w (Zdl w (Zhk a qs k)):=by
 have a1:=hl.cap;unfold maxLen at a1;obtain⟨W0,a2,Y,⟨q0,q1⟩,s0⟩:=Zef w 73 #[.bool an,.slice aA ak ac,.bool am,.slice aB aj ad] 73 #[.bool false,.slice none 0 0,.bool false,.slice none 0 0];obtain⟨g0,h⟩:=Gz w.heap.size;obtain⟨gR,I⟩:=Gz (g0+1);rw[h]at q0 q1 s0 Y;rw[I]at q1;have hA:=ha.below (h▸Y);have a5:Hid (W0.heap.size=gR+1):=Za (by rw[s0];omega);have a7:=Za hl;have b0:=Za hs;have b2:=Za he;have O:=Za h;clear hl hs he;go_in;go_wp2_with fail;(try rw[a2]);(try rw[h]);(try rw[I]);have a3:=Za I;clear a2 h I
 go_loopg [9] k (λt iv wr=>∃ (i:Nat) (xn:Bool) (xA:Option Addr) (xk xc:Nat) (xm:Bool) (xB:Option Addr) (xj xd:Nat),i+t=k/\iv=.int .i64 i/\Blk wr g0 73 #[.bool xn,.slice xA xk xc,.bool xm,.slice xB xj xd]/\Hid (Fr wr xn xA xk xc xm xB xj xd (Zhk a qs i))/\Kept (λk=>k=g0) W0 wr)
 case atStart=>exact⟨0,_,_,_,_,_,_,_,_,by omega,rfl,q0,Za hA,Kept.refl _ _⟩
 case round =>
  obtain⟨i,xn,xA,xk,xc,xm,xB,xj,xd,d0,rfl,U,hX,hK⟩:=hrel;have b6:=a5.out;have b4:=a3.out;have T:=hK.blk q1 Gk;have cE:Below g0 w wr:=Y.trans (hK.to_below (λk hk=>by omega) Gk);obtain⟨x0,x1,x2,x3,y0,y1,y2,y3⟩:=U.four;cases gk with
  | zero =>
   obtain rfl:i=k:=Gk;have t1:decide ((i:Int)<(i:Int))=false:=Gh;obtain⟨c0,c1,c2,c3,z0,z1,z2,z3⟩:=T.four;obtain⟨W5,V,q5,aQ,s5⟩:=Zau xn xA xk xc xm xB xj xd T;go_wp2_with fail;(try rw[V]);obtain⟨r0,r1,r2,r3,-⟩:=q5.four;refine bodyPost_ret (v:=.agg #[.bool xn,.slice xA xk xc,.bool xm,.slice xB xj xd]) (by simp[results,Tryz.results45,go_sem,r0,r1,r2,r3]) rfl ?_;refine⟨?_,_,_,_,_,_,_,_,_,rfl,hX.out.keptN aQ T (Za6 _ _ _ _ _ _ _ _)⟩;rw[O.out];exact Cz
  | succ t =>
   obtain rfl:t=k-(i+1):=Gk;have a0:i<k:=Gk;have t1:decide ((i:Int)<(k:Int))=true:=Gv Gk;have bi:(i:Int)<(k:Int):=Gk;obtain⟨gl,o,yn,yA,yk,yc,ym,yB,yj,yd,rfl,⟨c0,c1,c2,c3⟩,hY⟩:=(a7.out.below (O.out▸cE)).at_ a0;obtain⟨W1,c6,f,p1,s1⟩:=Zam wr 73 #[.bool false,.slice none 0 0,.bool false,.slice none 0 0];obtain⟨gn,a6⟩:=Gz wr.heap.size;rw[a6]at p1 s1;have b5:=Zc f U;obtain⟨u0,u1,u2,u3,v0,v1,v2,v3⟩:=p1.four;obtain⟨W2,a9,p2,b3,s2⟩:=Zau yn yA yk yc ym yB yj yd p1;have C:Below wr.heap.size wr W2:=f.trans (b3.to_below (λk e=>by omega) f.size);have a8:=hX.out.below C;have b1:=hY.below C;have J:=Zc C U;obtain⟨m0,m1,m2,m3,n0,n1,n2,n3⟩:=J.four;obtain⟨o0,o1,o2,o3,-⟩:=p2.four;have e0:=Zb f c0;have e1:=Zb f c1;have e2:=Zb f c2;have e3:=Zb f c3;go_wp2_with fail;(try rw[a9]);go_wp2_with fail;refine(Zxw xn xm yn ym xA xB yA yB xk xc xj xd yk yc yj yd _ _ W2 a8 b1 (b0.out i a0) (b2.out i a0)).mono ?_;rintro e w3 ⟨u,pn,pA,pk,pc,pm,pB,pj,pd,rfl,hf⟩;go_wp2_with fail;refine(Zga pn pm pA pB pk pc pj pd _ w3 hf).mono ?_;rintro e w4 ⟨a4,rn,rA,rk,rc,rm,rB,rj,rd,rfl,hr⟩;have y:=Zc a4 (Zc u J);obtain⟨b7,c7,c4,c9,c5,b8,b9,c8⟩:=y.four;obtain⟨W5,V,q5,aQ,s5⟩:=Zau rn rA rk rc rm rB rj rd y;clear x0 x1 x2 x3 y0 y1 y2 y3 m0 m1 m2 m3 n0 n1 n2 n3 o0 o1 o2 o3 u0 u1 u2 u3 v0 v1 v2 v3 e0 e1 e2 e3 c0 c1 c2 c3;go_wp2_with fail;(try rw[V]);have ip:=Za (hr.keptN aQ y (Za6 _ _ _ _ _ _ _ _));have ir:Kept (λk=>k=g0) W0 W5:=((hK.below C).below (Gs u a4)).trans aQ;exact IP
theorem Zvs(na:Bool)(A B:Option Addr)(n c m d:Nat)(za zb:Int)(w:World)(ha:Wd w na A n c za)(hb:Wd w true B m d zb)(h0:zb<0) :
    Calls Tryz.prog 157 #[.agg #[.bool na,.slice A n c],.agg #[.bool true,.slice B m d]] w (Zdl w (Qt za zb)):=by
 have e3:=Zdt ha.small hb.small;have hx:=Za (Zki (a:=za) (b:=zb) Gk);have hy:=Za (Zj1 (a:=za) (b:=zb) Gk);have a2:=Za (Zma (a:=za) (b:=zb) Gk);have b6:Zgk za zb=-((Nat.gcd za.natAbs zb.natAbs:Nat):Int):=by unfold Zgk;rw[Gx h0]
 rw[b6]at hx hy a2;have HA:=Za ha;have HB:=Za hb;obtain⟨G,hG⟩:=Gz (Nat.gcd za.natAbs zb.natAbs);rw[hG]at hx hy a2 e3
 have HGc:Hid (∀ W:World,Wd W na A n c za->Wd W true B m d zb->Calls Tryz.prog 151 #[.agg #[.bool na,.slice A n c],.agg #[.bool true,.slice B m d]] W (ResW W (G:Int))):=λW h1 h2=>by
  have:=Zk4 na true A B n c m d za zb W h1 h2;rw[hG]at this;exact this
 generalize Qt za zb=R at *;clear ha hb hG b6;have a9:∀ X Y Z:Obj,Below w.heap.size w (((w.alloc X).alloc Y).alloc Z):=λX Y Z=>(((Qn w.heap.size w).alloc (Qc _) _).alloc Gh _).alloc Gg _;have a9:=Za a9;go_in;go_wp2_with fail;have q0:Blk (((w.alloc (.cells #[.bool na,.slice A n c] 39)).alloc (.cells #[.bool true,.slice B m d] 39)).alloc (.cells #[.bool false,.slice none 0 0,.bool false,.slice none 0 0] 41)) w.heap.size 39 #[.bool na,.slice A n c]:=((QS _ _ _).alloc _).alloc _
 have q1:Blk (((w.alloc (.cells #[.bool na,.slice A n c] 39)).alloc (.cells #[.bool true,.slice B m d] 39)).alloc (.cells #[.bool false,.slice none 0 0,.bool false,.slice none 0 0] 41)) (w.heap.size+1) 39 #[.bool true,.slice B m d]:=by
  exact CS
 have q2:Blk (((w.alloc (.cells #[.bool na,.slice A n c] 39)).alloc (.cells #[.bool true,.slice B m d] 39)).alloc (.cells #[.bool false,.slice none 0 0,.bool false,.slice none 0 0] 41)) (w.heap.size+1+1) 41 #[.bool false,.slice none 0 0,.bool false,.slice none 0 0]:=by
  exact CR
 refine(HGc.out _ (((HA.out.alloc _).alloc _).alloc _) (((HB.out.alloc _).alloc _).alloc _)).mono ?_;rintro e w1 ⟨y,ng,Ag,kg,cg,code,rfl,hR⟩;rcases hR with ⟨-,rfl,b2⟩|⟨e0,-⟩
 case inr=>exact absurd e0 Gk
 have C:Below w.heap.size w w1:=(a9.out _ _ _).trans (y.mono Gg);have b4:=Za (HA.out.below C);have d8:=Za (HB.out.below C);have s1:w.heap.size+1+1<w1.heap.size:=by have:=y.size;simp at this;omega
 replace q0:=Zc y q0;replace q1:=Zc y q1;replace q2:=Zc y q2;obtain⟨J,T,-,-⟩:=q0.two;obtain⟨aX,aY,-,-⟩:=q1.two;have hq:=Za (Qe q0 (Qe q1 q2));clear q0 q1 q2 y;go_wp2_with fail;refine(Zd0 ng Ag kg cg _).mono ?_;rintro e w2 ⟨rfl,h⟩;have c4:Below w.heap.size w w2:=Gs C h;have c9:=Za (b4.out.below h);have c6:=Za (d8.out.below h);have d6:=Za (b2.below h);have s2:w.heap.size+1+1<w2.heap.size:=by have:=h.size;omega
 have q0:=Zc h hq.out.1;have q1:=Zc h hq.out.2.1;have q2:=Zc h hq.out.2.2;clear J T aX aY C h b2 b4 d8 hq;obtain⟨W3,a0,b8,q3,kW,kB,s3⟩:=Zn 39 #[.bool ng,.slice Ag kg cg] c4 Gk;replace q0:=kB _ _ _ q0;replace q1:=kB _ _ _ q1;replace q2:=kB _ _ _ q2;have d4:=Za (kW _ _ _ _ _ c9.out);have d5:=Za (kW _ _ _ _ _ c6.out);have b0:=Za (kW _ _ _ _ _ d6.out);have s4:w.heap.size+1+1<w2.heap.size:=s2;clear kW kB c9 c6 d6 c4;have c0:=Za q0.two;have c1:=Za q1.two;have c3:=Za q3.two;rw[<- a0]at c0 c1 c3;obtain⟨J,T,-,-⟩:=c0.out;obtain⟨aX,aY,-,-⟩:=c1.out;obtain⟨bF,bG,-,-⟩:=c3.out;have hq:=Za (Qe q0 (Qe q1 (Qe q2 q3)));clear q0 q1 q2 q3;replace a0:=Za a0;go_wp2_with fail;rw[a0.out];refine(Neg_ok ng Ag kg cg G W3 b0.out).mono ?_;rintro e w4 ⟨o,n5,A5,k5,c5,code,rfl,hR⟩;have a5:(-(G:Int)).natAbs<pw 4096:=by rw[Int.natAbs_neg];exact b0.out.small
 have b9:=Za (hR.small a5);have a6:=hR.code0 a5;subst a6;have I:Below w.heap.size w w4:=b8.trans (o.mono Gk);have b3:=Za (d4.out.below o);have V:=Za (d5.out.below o);have s5:w2.heap.size+1<=w4.heap.size:=by have:=o.size;omega
 have q0:=Zc o hq.out.1;have q1:=Zc o hq.out.2.1;have q2:=Zc o hq.out.2.2.1;have q3:=Zc o hq.out.2.2.2;clear o c0 c1 c3 J T aX aY bF bG a0 d4 d5 b0 b8 hq hR a5;have hq:=Za (Qe q0 (Qe q1 (Qe q2 q3)));clear q0 q1 q2 q3;go_wp2_with fail;refine(Zd0 n5 A5 k5 c5 _).mono ?_;rintro e w5 ⟨rfl,f⟩;have U:Below w.heap.size w w5:=I.trans (f.mono Gk);have b5:=Za (b3.out.below f);have a1:=Za (V.out.below f);have b7:=Za (b9.out.below f);have s6:w4.heap.size<=w5.heap.size:=f.size;have q0:=Zc f hq.out.1;have q1:=Zc f hq.out.2.1;have q2:=Zc f hq.out.2.2.1;have q3:=Zc f hq.out.2.2.2;clear f b3 V b9 I hq;obtain⟨W7,O,bu,a3,kW,kB,s7⟩:=Za0 n5 A5 k5 c5 U Gk q3;replace q0:=kB _ _ _ Gk q0;replace q1:=kB _ _ _ Gk q1;replace q2:=kB _ _ _ Gk q2;have d9:=Za (kW _ _ _ _ _ b5.out);have d7:=Za (kW _ _ _ _ _ a1.out);have a4:=Za (kW _ _ _ _ _ b7.out);obtain⟨e5,e4,e2,e1⟩:=q3.two;have c0:=Za q0.two;have c1:=Za q1.two;have c3:=Za a3.two;obtain⟨J,T,-,-⟩:=c0.out;obtain⟨aX,aY,-,-⟩:=c1.out;obtain⟨bF,bG,-,-⟩:=c3.out;have hq:=Za (Qe q0 (Qe q1 (Qe q2 a3)));clear q0 q1 q2 q3 a3 kW kB b5 a1 b7 U;replace O:=Za O;have d0:=O.out;go_wp2_with fail;(try rw[O.out]);clear e5 e4 e2 e1 d0;refine(Zgc na n5 A A5 n c k5 c5 za (-(G:Int)) _ d9.out a4.out a2.out).mono ?_;rintro e w9 ⟨u,nx,Ax,kx,cx,nr,Ar,kr,cr,rfl,a7,-⟩;rw[hx.out]at a7;have I:Below w.heap.size w w9:=bu.trans (u.mono Gk);have V:=Za (d7.out.below u);have d3:=Za (a4.out.below u);have s8:w2.heap.size+1<=w9.heap.size:=by have:=u.size;omega
 have q1:=Zc u hq.out.2.1;have q2:=Zc u hq.out.2.2.1;have q3:=Zc u hq.out.2.2.2;clear u c0 c1 c3 J T aX aY bF bG O d9 d7 a4 bu hq;obtain⟨W5,a8,U,q5,kW,kB,s6⟩:=Zn 39 #[.bool nx,.slice Ax kx cx] I Gk;replace q1:=kB _ _ _ q1;replace q2:=kB _ _ _ q2;replace q3:=kB _ _ _ q3;have a1:=Za (kW _ _ _ _ _ V.out);have b1:=Za (kW _ _ _ _ _ d3.out);have c7:=Za (kW _ _ _ _ _ a7);clear kW kB V d3 a7 I;obtain⟨W6,aM,aP,-,kW,kB,s7⟩:=Zn 39 #[.bool nr,.slice Ar kr cr] U Gk;replace q1:=kB _ _ _ q1;replace q2:=kB _ _ _ q2;replace q3:=kB _ _ _ q3;replace q5:=kB _ _ _ q5;have cY:=Za (kW _ _ _ _ _ a1.out);have cZ:=Za (kW _ _ _ _ _ b1.out);have cw:=Za (kW _ _ _ _ _ c7.out);clear kW kB a1 b1 c7 U;have c1:=Za q1.two;have c3:=Za q3.two;rw[<- aM,<- a8]at c1 c3;obtain⟨aX,aY,-,-⟩:=c1.out;obtain⟨bF,bG,-,-⟩:=c3.out;have hq:=Za (Qe q2 q5);clear q1 q2 q3 q5;rw[<- a8]at aM;replace aM:=Za aM;clear a8;go_wp2_with fail;rw[aM.out];refine(Zgc true n5 B A5 m d k5 c5 zb (-(G:Int)) _ cY.out cZ.out a2.out).mono ?_;rintro e w7 ⟨aD,ny,Ay,ky,cy,ns,As,ks,cs,rfl,dC,-⟩;rw[hy.out]at dC;have bu:Below w.heap.size w w7:=aP.trans (aD.mono Gk);have dR:=Za (cw.out.below aD);have e6:w9.heap.size+2<=w7.heap.size:=by have:=aD.size;omega
 exact Eo
theorem Zuw(na nb:Bool)(A B:Option Addr)(n c m d:Nat)(za zb:Int)(w:World)(ha:Wd w na A n c za)(hb:Wd w nb B m d zb)(h0:zb≠0) :
    Calls Tryz.prog 157 #[.agg #[.bool na,.slice A n c],.agg #[.bool nb,.slice B m d]] w (Zdl w (Qt za zb)):=by
 by_cases hn:zb<0
 ·have:nb=true:=by rw[hb.1];exact Gv hn
  subst this;exact Zvs na A B n c m d za zb w ha hb hn
 have:nb=false:=by rw[hb.1];exact Gu hn
 subst this;exact Zje na A B n c m d za zb w ha hb Gk
theorem Z1g(F:FuncId)(na nb na' nb':Bool)(A B A' B':Option Addr)(n c m d n' c' m' d':Nat)(a b:Rat)(X Y:Int)(w:World)(ha:Fr w na A n c nb B m d a)(hb:Fr w na' A' n' c' nb' B' m' d' b)(hY:Y≠0)(hcf:∀ (x y:Value) (W:World),(callFunc F #[x,y]).run Tryz.prog W=.ok (.enter F #[x,y]) W)
    (hF:∀ W:World,Fr W na A n c nb B m d a->Fr W na' A' n' c' nb' B' m' d' b->Calls Tryz.prog F #[.agg #[.bool na,.slice A n c,.bool nb,.slice B m d],.agg #[.bool na',.slice A' n' c',.bool nb',.slice B' m' d']] W (Zpk W X Y)) :
    Calls Tryz.prog 130 #[.agg #[.bool na,.slice A n c,.bool nb,.slice B m d],.agg #[.bool na',.slice A' n' c',.bool nb',.slice B' m' d'],.func (.func F) #[] #[]] w (Zet w (Qt X Y)):=by
 obtain⟨W0,O,C,⟨q0,q1,q2,q3⟩,s0⟩:=Zfu w 41 #[.bool na,.slice A n c,.bool nb,.slice B m d] 41 #[.bool na',.slice A' n' c',.bool nb',.slice B' m' d'] 41 #[.bool false,.slice none 0 0,.bool false,.slice none 0 0] 26 #[.int .i64 0];have hA:=Za (ha.below C);have hD:=Za (hb.below C);replace hF:=Za hF;clear ha hb;replace O:=Za O;obtain⟨a0,a1,a2,a3,-⟩:=q0.four;have hq:=Za (Qe q0 (Qe q1 (Qe q2 q3)));clear q0 q1 q2 q3
 go_enter_defers Tryz.func130,Tryz.ntmps130
 have a6:=O.out;go_wp2_with fail;clear O a6;refine(Zek na nb A B n c m d a W0 hA.out).mono ?_;rintro e w1 ⟨rfl,o⟩;have T:Below w.heap.size w w1:=Gs C o;have s1:W0.heap.size<=w1.heap.size:=o.size;replace hA:=Za (hA.out.below o);replace hD:=Za (hD.out.below o);obtain⟨q0,q1,q2,q3⟩:=hq.out;replace q0:=Zc o q0;replace q1:=Zc o q1;replace q2:=Zc o q2;replace q3:=Zc o q3;clear hq o C a0 a1 a2 a3;obtain⟨b0,b1,b2,b3,-⟩:=q1.four;have hq:=Za (Qe q0 (Qe q1 (Qe q2 q3)));clear q0 q1 q2 q3;go_wp2_with fail;refine(Zfn w1).mono ?_;rintro e w1 ⟨rfl,rfl⟩;go_wp2_with fail;refine(Zek na' nb' A' B' n' c' m' d' b w1 hD.out).mono ?_;rintro e w2 ⟨rfl,h⟩;have a4:Below w.heap.size w w2:=Gs T h;have s2:w1.heap.size<=w2.heap.size:=h.size;replace hA:=Za (hA.out.below h);replace hD:=Za (hD.out.below h);obtain⟨q0,q1,q2,q3⟩:=hq.out;replace q0:=Zc h q0;replace q1:=Zc h q1;replace q2:=Zc h q2;replace q3:=Zc h q3;clear hq h T b0 b1 b2 b3;obtain⟨a0,a1,a2,a3,-⟩:=q0.four;obtain⟨b0,b1,b2,b3,-⟩:=q1.four;have hq:=Za (Qe q2 q3);clear q0 q1 q2 q3;go_wp2_with fail;refine(Zfn w2).mono ?_;rintro e w2 ⟨rfl,rfl⟩;go_wp2_with fail;refine(hF.out w2 hA.out hD.out).mono ?_;rintro e w3 ⟨J,nu,U,k1,u,nv,V,k2,v,rfl,hU,hV⟩;have a5:Below w.heap.size w w3:=Gs a4 J;have s3:w2.heap.size<=w3.heap.size:=J.size;have q2:=Zc J hq.out.1;have q3:=Zc J hq.out.2
 clear hq J a4 a0 a1 a2 a3 b0 b1 b2 b3 hA hD hF;have hq:=Za (Qe q2 q3);replace hU:=Za hU;replace hV:=Za hV;clear q2 q3;go_wp2_with fail;refine(Zuw nu nv U V k1 u k2 v X Y w3 hU.out hV.out hY).mono ?_;rintro e w4 ⟨I,nx,Ax,kx,cx,ny,Ay,ky,cy,rfl,hF⟩;have a9:Below w.heap.size w w4:=Gs a5 I;have s4:w3.heap.size<=w4.heap.size:=I.size;have q2:=Zc I hq.out.1;have q3:=Zc I hq.out.2;clear hq I hU hV a5;have c2:=Za q2.four;have c3:=q3.cell 0;have f3:=q3.frozen 0;simp at c3;obtain⟨b9,b6,b8,b5,b4,a7,a8,b7⟩:=c2.out;have hq:=Za (Qe q2 q3);exact CA
theorem Zve(x y:Value)(W:World):(callFunc 155 #[x,y]).run Tryz.prog W=.ok (.enter 155 #[x,y]) W:=by simp[go_sem]
theorem Div1_ok(na nb na' nb':Bool)(A B A' B':Option Addr)(n c m d n' c' m' d':Nat)(a b:Rat)(w:World)(ha:Fr w na A n c nb B m d a)(hb:Fr w na' A' n' c' nb' B' m' d' b)
    (hs:(a.num*b.den).natAbs<pw 4096) (ht:((a.den:Int)*b.num).natAbs<pw 4096) (h0:b≠0) :
    Calls Tryz.prog 155 #[.agg #[.bool na,.slice A n c,.bool nb,.slice B m d],.agg #[.bool na',.slice A' n' c',.bool nb',.slice B' m' d']] w (Zpk w (a.num*b.den) ((a.den:Int)*b.num)):=by
 obtain⟨W0,I,C,⟨q0,q1,q2,q3⟩,s0⟩:=Zfu w 41 #[.bool na,.slice A n c,.bool nb,.slice B m d] 41 #[.bool na',.slice A' n' c',.bool nb',.slice B' m' d'] 39 #[.bool false,.slice none 0 0] 39 #[.bool false,.slice none 0 0]
 have a5:((n':Int) == 0)=false:=by
  have:n'≠0:=λe=>h0 (hb.zero_iff.1 e);simp;omega
 have hmx:=Gt;have hA:=Za (ha.below C);have hD:=Za (hb.below C);replace hs:=Za hs;replace ht:=Za ht;have sz:=Za C.size;have hB:=Za C;clear ha hb C s0;replace q0:=Za q0;replace q1:=Za q1;replace q2:=Za q2;replace q3:=Za q3;obtain⟨a0,a1,a2,a3,-⟩:=q0.out.four;obtain⟨b0,b1,b2,b3,-⟩:=q1.out.four;replace I:=Za I;go_in;go_wp2_with fail;rw[I.out];refine(Zkf na' A' n' c' W0 (Qd hD.out.1.2.1 Gj) false a5).mono ?_;rintro e wz ⟨rfl,u⟩;replace q0:=Gm u q0;replace q1:=Gm u q1;replace q2:=Gm u q2;replace q3:=Gm u q3;replace hA:=Za (hA.out.below u);replace hD:=Za (hD.out.below u);replace hB:=Za (hB.out.trans (u.mono sz.out));replace sz:=Za (Qd sz.out u.size);clear a0 a1 a2 a3 b0 b1 b2 b3 I u;obtain⟨a0,a1,a2,a3,-⟩:=q0.out.four;obtain⟨b0,b1,b2,b3,-⟩:=q1.out.four;go_wp2_with fail;refine Zz [12] (λW'=>W'.cell? ⟨w.heap.size,0,none⟩=some (.bool na)/\W'.cell? ⟨w.heap.size,1,none⟩=some (.slice A n c)/\W'.cell? ⟨w.heap.size,2,none⟩=some (.bool nb)/\W'.cell? ⟨w.heap.size,3,none⟩=some (.slice B m d)/\W'.cell? ⟨w.heap.size+1,0,none⟩=some (.bool na')/\W'.cell? ⟨w.heap.size+1,1,none⟩=some (.slice A' n' c')/\W'.cell? ⟨w.heap.size+1,2,none⟩=some (.bool nb')/\W'.cell? ⟨w.heap.size+1,3,none⟩=some (.slice B' m' d')) hmx ⟨a0,a1,a2,a3,b0,b1,b2,b3⟩ (λ_=>?_);refine Zke 6 [0,1,3,4,5,6] rfl Gi ⟨a0,a1,a2,a3,b0,b1,b2,b3⟩ ?_
 iterate 6 (refine tkA ?_;try simp only[Qh,Zhf,Zgs,Zg9,Gr,Gq,Gp])
 refine tk0 ?_;refine wpAnyL_o 2 λK hK=>?_;go_simp;refine(Zfg na nb na' nb' A B A' B' n c m d n' c' m' d' a b wz.drew hA.out hD.out hs.out).mono ?_;rintro e w1 ⟨h,np,P,k,q,rfl,hP⟩;replace h:=Zt h;replace hP:=Za hP;clear hs;replace q0:=Gm h q0;replace q1:=Gm h q1;replace q2:=Gm h q2;replace q3:=Gm h q3;replace hA:=Za (hA.out.below h);replace hD:=Za (hD.out.below h);replace hB:=Za (hB.out.trans (h.mono sz.out));replace sz:=Za (Qd sz.out h.size);clear a0 a1 a2 a3 b0 b1 b2 b3;obtain⟨a0,a1,a2,a3,-⟩:=q0.out.four;obtain⟨b0,b1,b2,b3,-⟩:=q1.out.four;clear h;refine hK.out _ _ (λ_=>⟨a0,a1,a2,a3,b0,b1,b2,b3⟩) ?_;clear hK K
 try simp only[Qh,Zhf,Zgs,Zg9]
 refine wpAnyL_o 7 λK hK=>?_;go_simp;refine(Zjh nb na' B A' m d n' c' a.den b.num w1 hA.out.2 hD.out.1).mono ?_;rintro e w3 ⟨o,J,P',k',q',code,rfl,hR⟩;have y:=Za (hR.small ht.out);have T:=hR.code0 ht.out;subst T;clear ht hR;replace hP:=Za (hP.out.below o);replace q0:=Gm o q0;replace q1:=Gm o q1;replace q2:=Gm o q2;replace q3:=Gm o q3;replace hA:=Za (hA.out.below o);replace hD:=Za (hD.out.below o);replace hB:=Za (hB.out.trans (o.mono sz.out));replace sz:=Za (Qd sz.out o.size);clear a0 a1 a2 a3 b0 b1 b2 b3;obtain⟨a0,a1,a2,a3,-⟩:=q0.out.four;obtain⟨b0,b1,b2,b3,-⟩:=q1.out.four;clear o;refine hK.out _ _ (λ_=>⟨a0,a1,a2,a3,b0,b1,b2,b3⟩) ?_;clear hK K
 try simp only[Qh,Zhf,Zgs,Zg9]
 refine Zke 2 [8,9] rfl Gi ⟨a0,a1,a2,a3,b0,b1,b2,b3⟩ ?_
 iterate 2 (refine tkA ?_;try simp only[Qh,Zhf,Zgs,Zg9,Gr,Gq,Gp])
 refine tk0 ?_;refine wpAnyL_o 10 λK hK=>?_;go_simp;refine(Zd0 J P' k' q' w3).mono ?_;rintro e w4 ⟨rfl,f⟩;replace hP:=Za (hP.out.below f);replace y:=Za (y.out.below f);replace q0:=Gm f q0;replace q1:=Gm f q1;replace q2:=Gm f q2;replace q3:=Gm f q3;replace hA:=Za (hA.out.below f);replace hD:=Za (hD.out.below f);replace hB:=Za (hB.out.trans (f.mono sz.out));replace sz:=Za (Qd sz.out f.size);clear a0 a1 a2 a3 b0 b1 b2 b3;obtain⟨a0,a1,a2,a3,-⟩:=q0.out.four;obtain⟨b0,b1,b2,b3,-⟩:=q1.out.four;clear f;obtain⟨x0,x1,f0,f1⟩:=q2.out.two;refine hK.out _ _ (λ_=>⟨a0,a1,a2,a3,b0,b1,b2,b3⟩) ?_;clear hK K
 try simp only[Qh,Zhf,Zgs,Zg9]
 refine wpAnyL_o 11 λK hK=>?_;go_simp;obtain⟨W5,V,Y,O,kW,kB,s5⟩:=Za0 np P k q hB.out Gk q2.out;rw[V];clear V x0 x1 f0 f1 a0 a1 a2 a3 b0 b1 b2 b3 hA hD;replace q0:=kB _ _ _ Gk q0.out;replace q1:=kB _ _ _ Gk q1.out;obtain⟨a0,a1,a2,a3,-⟩:=q0.four;obtain⟨b0,b1,b2,b3,-⟩:=q1.four;replace q3:=Za (kB _ _ _ Gk q3.out);replace hP:=Za (kW _ _ _ _ _ hP.out);replace y:=Za (kW _ _ _ _ _ y.out);clear kW kB q2 hB q0 q1;obtain⟨y0,y1,g0,g1⟩:=q3.out.two;refine hK.out _ _ (λ_=>⟨a0,a1,a2,a3,b0,b1,b2,b3⟩) ?_;clear hK K
 try simp only[Qh,Zhf,Zgs,Zg9]
 refine Zu (i:=12) rfl Gi Gi (λK hK=>?_);go_simp;obtain⟨W6,U,a6,a4,kW,kB,s6⟩:=Za0 J P' k' q' Y Gk q3.out;rw[U];clear U y0 y1 g0 g1 a0 a1 a2 a3 b0 b1 b2 b3;replace O:=kB _ _ _ Gk O;replace hP:=Za (kW _ _ _ _ _ hP.out);replace y:=Za (kW _ _ _ _ _ y.out);clear kW kB q3 Y;refine hK.out _ _ ?_;clear hK K
 try simp only[Qh,Zhf,Zgs,Zg9]
 refine wpAnyL_fin ?_;obtain⟨r0,r1,-⟩:=O.two;obtain⟨r2,r3,-⟩:=a4.two;go_wp2_with fail;refine bodyPost_ret (v:=.tuple #[.agg #[.bool np,.slice P k q],.agg #[.bool J,.slice P' k' q']]) (by simp[results,Tryz.results155,go_sem,r0,r1,r2,r3]) rfl ?_;exact⟨a6,_,_,_,_,_,_,_,_,rfl,hP.out,y.out⟩
theorem Ztc(na nb na' nb':Bool)(A B A' B':Option Addr)(n c m d n' c' m' d':Nat)(a b:Rat)(w:World)(ha:Fr w na A n c nb B m d a)(hb:Fr w na' A' n' c' nb' B' m' d' b)(sa:Sm a)(sb:Sm b)(h0:b≠0) :
    Calls Tryz.prog 111 #[.agg #[.bool na,.slice A n c,.bool nb,.slice B m d],.agg #[.bool na',.slice A' n' c',.bool nb',.slice B' m' d']] w (Zet w (a/b)):=by
 obtain⟨W0,u,f,⟨q0,q1,q2⟩,s0⟩:=Zb0 w 41 #[.bool na,.slice A n c,.bool nb,.slice B m d] 41 #[.bool na',.slice A' n' c',.bool nb',.slice B' m' d'] 41 #[.bool false,.slice none 0 0,.bool false,.slice none 0 0];have hA:=Za (ha.below f);have hD:=Za (hb.below f);have hF:=λ(W:World) (h1:Fr W na A n c nb B m d a) (h2:Fr W na' A' n' c' nb' B' m' d' b)=>Div1_ok na nb na' nb' A B A' B' n c m d n' c' m' d' a b W h1 h2 (Zbs sa.1 sb.dn) (Zbs sa.dn sb.1) h0;have hG:=Za (Z1g 155 na nb na' nb' A B A' B' n c m d n' c' m' d' a b _ _ W0 hA.out hD.out (Zjk a b h0) Zve hF);rw[Zh3 a b h0]at hG;clear hF ha hb sa sb hA hD;obtain⟨a0,a1,a2,a3,-⟩:=q0.four;obtain⟨b0,b1,b2,b3,-⟩:=q1.four;replace q2:=Za q2;clear q0 q1;go_in;go_wp2_with fail;refine hG.out.mono ?_;rintro e w1 ⟨h,nx,Ax,kx,cx,ny,Ay,ky,cy,rfl,hX⟩;have o:Below w.heap.size w w1:=Gs f h;have s1:W0.heap.size<=w1.heap.size:=h.size;replace q2:=Gm h q2;replace hX:=Za hX;clear h a0 a1 a2 a3 b0 b1 b2 b3 f hG u;obtain⟨Y,U,V,T,O,C,J,I⟩:=q2.out.four;go_wp2_with fail;obtain⟨W5,y,aG,q2,kW,-,s5⟩:=Z7 nx Ax kx cx ny Ay ky cy o Gk q2.out;rw[y];obtain⟨r0,r1,r2,r3,-⟩:=q2.four;refine bodyPost_ret (v:=.tuple #[.agg #[.bool nx,.slice Ax kx cx,.bool ny,.slice Ay ky cy],.int .i64 0]) (by simp[results,Tryz.results111,go_sem,r0,r1,r2,r3]) rfl ?_;exact FY
theorem Zto(na nb na' nb':Bool)(A B A' B':Option Addr)(n c m d n' c' m' d':Nat)(a b:Rat)(w:World)(ha:Fr w na A n c nb B m d a)(hb:Fr w na' A' n' c' nb' B' m' d' b)(sa:Sm a)(sb:Sm b)(h0:b≠0) :
    Calls Tryz.prog 67 #[.agg #[.bool na,.slice A n c,.bool nb,.slice B m d],.agg #[.bool na',.slice A' n' c',.bool nb',.slice B' m' d']] w (Zdl w (a/b)):=by
 obtain⟨W0,h,aw,⟨q0,q1,q2⟩,s0⟩:=Zb0 w 73 #[.bool na,.slice A n c,.bool nb,.slice B m d] 73 #[.bool na',.slice A' n' c',.bool nb',.slice B' m' d'] 73 #[.bool false,.slice none 0 0,.bool false,.slice none 0 0];obtain⟨a0,a1,a2,a3,-⟩:=q0.four;obtain⟨b0,b1,b2,b3,-⟩:=q1.four;obtain⟨gR,f⟩:=Gz (w.heap.size+1+1);rw[f]at q2;have hA:=ha.below aw;have hD:=hb.below aw;go_in;go_wp2_with fail;(try rw[h]);refine(Ztc na nb na' nb' A B A' B' n c m d n' c' m' d' a b W0 hA hD sa sb h0).mono ?_;rintro e w1 ⟨ab,pn,pA,pk,pc,pm,pB,pj,pd,rfl,hf⟩;replace q2:=Zc ab q2;clear a0 a1 a2 a3 b0 b1 b2 b3 q0 q1 hA hD;go_wp2_with fail;refine(Zga pn pm pA pB pk pc pj pd _ w1 hf).mono ?_;rintro e w2 ⟨aa,rn,rA,rk,rc,rm,rB,rj,rd,rfl,hr⟩;replace q2:=Zc aa q2;(try rw[f]);obtain⟨c0,c1,c2,c3,z0,z1,z2,z3⟩:=q2.four;obtain⟨W5,o,q5,aQ,s5⟩:=Zau rn rA rk rc rm rB rj rd q2;clear hf;go_wp2_with fail;(try rw[o]);obtain⟨r0,r1,r2,r3,-⟩:=q5.four;refine bodyPost_ret (v:=.agg #[.bool rn,.slice rA rk rc,.bool rm,.slice rB rj rd]) (by simp[results,Tryz.results67,go_sem,r0,r1,r2,r3]) rfl ?_;exact CB
