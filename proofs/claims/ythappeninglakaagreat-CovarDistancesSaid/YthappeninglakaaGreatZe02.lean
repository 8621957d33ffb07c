/- slices.Clone of limbs. math/bits.Div32. Division of limbs: -/
import Derived.BigQuiet
import Derived.Deep.QuietTactic
import Derived.Laws.IdiomCopy
import Derived.Deep.RegionHeld3
import Derived.RangeFuncCalls
import Derived.TacticsIn
import Derived.Shelf.RegionOpen
import Derived.Test.YthappeninglakaaGreatZe01
set_option maxRecDepth 100000
set_option maxHeartbeats 2000000
set_option linter.unusedSimpArgs false
set_option linter.unusedVariables false
namespace Go.Proofs.YthappeninglakaaGreat
open Go.RowKit
open List renaming replicate→Qa,drop_of_length_le→Qc,getElem?_eq_getElem→Qe,length_map→Qh,drop_zero→Qm,length_take→Qo,all_eq_true→Qp,length_set→Qt,length_nil→Qu,getElem?_append_right→Qz,append_assoc→QA,getElem?_append_left→QB,nil_append→QF,getElem?_eq_none→QI,append_toArray→QM,getElem?_take→QO,getElem?_drop→QP,getElem?_map→QQ,size_toArray→QR,push_toArray→QS,length_cons→QT,cons_append→QU
open World renaming cell?_setCell_other→Qb,size_alloc→QV
open Nat renaming mul_le_mul_left→Qd,div_lt_iff_lt_mul→Qf,le_refl→Qg,mul_comm→Qi,two_pow_add_eq_or_of_lt→Qj,eq_zero_or_pos→Qk,pow_pos→Qn,zero_add→Qr,div_add_mod→Qs,pow_le_pow_right→Qv,lt_of_lt_of_le→Qx,add_mul_mod_self_right→Qy,min_eq_left→QE,mul_add→QG,div_div_eq_div_mul→QH,mod_lt→QJ,lt_or_ge→QN
open Below renaming refl→Ql
open Act renaming put→Qq
open Blk renaming new→Qw
open IntKind renaming wrap_u64→QC
open Bool renaming and_eq_true→QD
open _root_.Array renaming replicate_succ→QK,replicate_zero→QL
attribute [local go_sem] Zg
theorem OwnL.mut{t:TypeId}{w:World}{base:Nat}{v:Value}{l:List Nat}(h:OwnL t w base v l)(hn:0<l.length):∃ g cap,v=.slice (some ⟨g,0,none⟩) l.length cap/\base<=g/\g<w.heap.size/\l.length<=cap/\cap<=maxLen/\MutL w g 0 l:=by
 rcases h.1.2 with ⟨hv,h0⟩|⟨g,cap,cur,hv,hg,hh,f,e,o,ht⟩;omega;refine⟨g,cap,hv,hg,(Array.getElem?_eq_some_iff.1 hh).1,f,e,λk hk=>⟨?_,?_⟩⟩
 ·rw[Qr,cell_of_row w g k cur t (0,0) hh]
  exact FU
 rw[Qr];unfold World.frozen?;rw[hh];simp
def Zu0(w:World)(l:List Nat)(e:Ending)(w':World):Prop:=
 ∃ v,e=.returned v/\OwnL 106 w' w.heap.size v l/\Below w.heap.size w w'
theorem Zo9(a:Addr)(n c:Nat)(l:List Nat)(w:World)(h:Reads w w.heap.size 1 (some a) n (l.map limb))(hl:l.length=n)(hlt:Lt32 l)(hn9:n<=1000000000)(hnc:n<=c)(hcm:c<=maxLen) :
    Calls Tryz.prog 181 #[.slice (some a) n c] w (Zu0 w l):=by
 obtain⟨i0,hi,o,u,f⟩:=info_parts Zdj;unfold maxLen at hcm;replace hl:=Zb hl;have I:∀ W,(binOp BinOp.eql 37 (.slice (some a) n c) (.slice none 0 0)).run Tryz.prog W=.ok (.bool false) W:=λ_=>by kernel_rfl
 go_in;go_wp2_with (go_loud (at_builtin;refine Zx _ rfl (.tmp 5) (.tmp 6) 37 rfl w.heap.size 106 i0 _ 1 4 Tryz.underlying37 hi o u f rfl Gk (.slice (some ⟨w.heap.size,0,none⟩) 0 0) 0 [] rfl (Zla _ _ _) _ (some a) n c (l.map limb) rfl (by exact h.alloc (Qg _) _) (Zek _) (by simp only[maxLen];omega) Gk Gh ?_;intro v1 w1 e y C));go_ret;have h2:OwnL 106 w1 w.heap.size v1 ([]++l):=OwnL.append (l:=[]) rfl hl.out.symm e Lt32.nil hlt;exact⟨v1,rfl,h2,((Ql _ _).alloc (Qg _) _).grown y Gh (λj hj=>by simp[Value.ownBlock]at hj;omega)⟩
theorem Zuj(c:Nat)(w:World):Calls Tryz.prog 181 #[.slice none 0 c] w (Zu0 w []):=by
 have e:∀ W,(binOp BinOp.eql 37 (.slice none 0 c) (.slice none 0 0)).run Tryz.prog W=.ok (.bool true) W:=λ_=>by kernel_rfl
 go_in
 go_wp2
 go_ret;exact⟨_,rfl,OwnL.nil _ _ _,Ql _ _⟩
theorem Cy{G:Prop}(h:G:=by
 rcases Nat.eq_zero_or_pos n with h0|h0;exact h0;obtain⟨b,o,e,_⟩:=h.2.2.2.2 h0;cases e):G:=h
theorem Zia(A:Option Addr)(n c:Nat)(l:List Nat)(w:World)(h:Lim w A n c l)(hn9:n<=1000000000) :
    Calls Tryz.prog 181 #[.slice A n c] w (Zu0 w l):=by
 rcases A with _|a
 ·have hn:n=0:=by
    exact Cy
  subst hn;obtain rfl:l=[]:=List.eq_nil_of_length_eq_zero h.len;exact Zuj c w
 exact Zo9 a n c l w h.reads h.len h.lt hn9 h.2.1 h.2.2.1
theorem Zpv(x y d:Nat)(w:World)(hx:x<d)(hy:y<4294967296)(hd:d<4294967296) :
    Calls Tryz.prog 199 #[limb x,limb y,limb d] w λe w'=>e=.returned (.tuple #[limb ((x*4294967296+y)/d),limb ((x*4294967296+y)%d)])/\w'=w.drew:=by
 have d1:((d:Int) == 0)=false:=by simp;omega
 have d2:decide ((d:Int)<=(x:Int))=false:=by simp;omega
 have d3:(d:Int)≠0:=Gk;have h:decide (d<=x)=false:=by simp;omega
 obtain⟨t,ht⟩:=Gz (x*4294967296+y)
 have f:bits .or .u64 ((x:Int)*4294967296) (y:Int)=(t:Int):=by
  have h1:((x:Int)*4294967296)=((4294967296*x:Nat):Int):=Gk;rw[h1,u64_or_nat _ _ Gk Gk];have h2:=Qj (i:=32) (b:=y) Gk x;rw[show (2:Nat)^32=4294967296 by rfl]at h2;rw[<- h2];omega
 have hq:t/d<4294967296:=by rw[Qf Gk];have:=Qd 4294967296 (show x+1<=d by omega);omega
 have hr:t%d<d:=QJ _ Gk;have o:t<18446744073709551616:=Gk;rw[ht];replace ht:=Zb ht;go_in;go_wp2_with fail
 go_region
 have e1:IntKind.u64.wrap ((t:Int)/(d:Int))%4294967296=((t/d:Nat):Int):=by
  rw[show (t:Int)/(d:Int)=((t/d:Nat):Int) from rfl];generalize t/d=z at *;simp only[QC];omega
 go_wp2_with fail
 go_ret2
 exact⟨Zi9 e1 rfl,rfl⟩
theorem Zbu{l:List Nat}{k:Nat}(h:k<l.length):val (l.drop k)=l[k]?.getD 0+4294967296*val (l.drop (k+1)):=by
 rw[List.drop_eq_getElem_cons h,val,Qe h];rfl
theorem Zp5{U V q R:Nat}(h:R+q*V=U)(hR:R<V):q=U/V/\R=U%V:=by
 subst h;have hV:0<V:=Gk;constructor;rw[Nat.add_mul_div_right _ _ hV,Nat.div_eq_of_lt hR,Qr];rw[Qy,Nat.mod_eq_of_lt hR]
theorem Zpf{U V q W:Nat}(hV:0<V)(h:W+q*V=U)(hq:U/V<=q):q=U/V/\W=U%V:=by
 have h1:q<=U/V:=by rw[Nat.le_div_iff_mul_le hV];omega
 have h2:q=U/V:=Gk;refine⟨h2,?_⟩;have h3:=Qs U V;rw[<- h2,Qi V q]at h3;omega
theorem Znu{U V q W M:Nat}(hV:0<V)(h:W+q*V=U+M)(hW:W<M):U/V<q:=by
 rw[Qf hV];omega
theorem Zo1{out l:List Nat}{k D r q r':Nat}(ho:k<out.length)(hl:k<l.length)(hI:val (out.drop (k+1))*D+r=val (l.drop (k+1)))(he:q*D+r'=r*4294967296+l[k]?.getD 0) :
    val ((out.set k q).drop k)*D+r'=val (l.drop k):=by
 rw[Zbu (l:=out.set k q) (by rw[Qt];exact ho),Zlk _ ho,List.drop_set_of_lt Gk,Zbu hl,Nat.add_mul,<- hI,QG,Nat.mul_assoc];omega
theorem Z0b{r:List Nat}{i s:Nat}(hs:s<=32)(hi:i<r.length)(hlt:Lt32 r) :
    val (r.drop i)/2^s=(r[i]?.getD 0+4294967296*r[i+1]?.getD 0)/2^s%4294967296+4294967296*(val (r.drop (i+1))/2^s):=by
 have hp:0<2^s:=Qn Gk;have e1:val (r.drop i)=r[i]?.getD 0+4294967296*val (r.drop (i+1)):=Zbu hi
 obtain⟨t,e2⟩:∃ t,val (r.drop (i+1))=r[i+1]?.getD 0+4294967296*t:=by
  rcases QN (i+1) r.length with h|h;exact⟨_,Zbu h⟩;exact⟨0,by rw[Qc h,getD_none h];rfl⟩
 have hx:=hlt.get i;have hq:(4294967296:Nat)=2^s*2^(32-s):=by rw[<- Nat.pow_add,show s+(32-s)=32 by omega]
 have hb:4294967296*(val (r.drop (i+1))/2^s)=4294967296*(val (r.drop i)/2^s/4294967296):=by
  congr 1;rw[QH,Qi (2^s),<- QH,e1];congr 1;omega
 have ha:(r[i]?.getD 0+4294967296*r[i+1]?.getD 0)/2^s%4294967296=val (r.drop i)/2^s%4294967296:=by
  rw[e1,e2]
  have:r[i]?.getD 0+4294967296*(r[i+1]?.getD 0+4294967296*t)=(r[i]?.getD 0+4294967296*r[i+1]?.getD 0)+2^s*(2^(32-s)*t*4294967296):=by
   have:2^s*(2^(32-s)*t*4294967296)=(2^s*2^(32-s))*t*4294967296:=by grind
   rw[this,<- hq];omega
  rw[this,Nat.add_mul_div_left _ _ hp,Qy]
 rw[ha,hb];omega
def splice(u:List Nat)(k:Nat)(l:List Nat):List Nat:=u.take k++l++u.drop (k+l.length)
theorem Zen{u l:List Nat}{k:Nat}(h:k+l.length<=u.length):(splice u k l).length=u.length:=by
 unfold splice;simp;omega
theorem Zyx{u l:List Nat}{k:Nat}(hu:Lt32 u)(hl:Lt32 l):Lt32 (splice u k l):=((hu.take _).append hl).append (hu.drop _)
theorem Zoy{u l:List Nat}{k i:Nat}(h:k+l.length<=u.length)(hi:i<l.length):(splice u k l)[k+i]?.getD 0=l[i]?.getD 0:=by
 unfold splice;rw[QB Gg,Qz Gg,Qo,QE Gk,show k+i-k=i by omega]
theorem Zns{u l:List Nat}{k j:Nat}(h:k+l.length<=u.length)(hj:j<k \/ k+l.length<=j):(splice u k l)[j]?.getD 0=u[j]?.getD 0:=by
 unfold splice;rcases hj with hj|hj;rw[QA,QB Gg,QO,Gx hj];rw[Qz Gg,QP];congr 2;simp;omega
def DivI(A V n:Nat)(u q:List Nat)(j:Nat):Prop:=
 Lt32 u/\Lt32 q/\u.length=q.length+n/\j<=q.length/\val u+V*val q=A/\val (u.drop j)<V/\∀ i,i<j->q[i]?.getD 0=0
theorem DivI.win{A V n:Nat}{u q:List Nat}{k:Nat}(h:DivI A V n u q (k+1))(hV:V<=pw n):val ((u.drop k).take (n+1))=val (u.drop k)/\val (u.drop k)<4294967296*V:=by
 obtain⟨h1,h2,h3,h4,h5,h6,h7⟩:=h;have e:=Zbu (l:=u) (k:=k) Gk;have hx:=h1.get k;have f:val (u.drop k)<4294967296*V:=Gk;refine⟨?_,f⟩;have e2:=Zae (u.drop k) (n+1) Gg;rcases Qk (val ((u.drop k).drop (n+1)))with h0|h0;rw[h0]at e2;omega;have:=Qd (pw (n+1)) h0;rw[Za7]at this e2;have:=Qd 4294967296 hV;omega
theorem DivI.step{A V n:Nat}{u q l:List Nat}{k Q:Nat}(h:DivI A V n u q (k+1))(hV:V<=pw n)(hll:l.length=n+1)(hl:Lt32 l)(hQ:Q<4294967296)
    (hq:Q=val ((u.drop k).take (n+1))/V) (hr:val l=val ((u.drop k).take (n+1))%V):DivI A V n (splice u k l) (q.set k Q) k:=by
 obtain⟨hw,o⟩:=h.win hV;obtain⟨h1,h2,h3,h4,h5,h6,h7⟩:=h;have f:0<V:=Gk;have hk:k+l.length<=u.length:=Gk
 have ed:(splice u k l).drop k=l++u.drop (k+l.length):=by
  unfold splice;rw[QA,List.drop_append_of_le_length Gg,Qc Gg,QF]
 have e0:val (u.drop (k+l.length))=0:=by
  have e2:=Zae (u.drop k) (n+1) Gg;rw[hw,List.drop_drop,<- hll]at e2;rcases Qk (val (u.drop (k+l.length)))with h0|h0;exact h0;have:=Qd (pw l.length) h0;have:=Zb1 l.length;omega
 have e:val ((splice u k l).drop k)=val l:=by rw[ed,Zjo,e0];omega
 refine⟨Zyx h1 hl,h2.set k hQ,by rw[Zen hk,Qt];exact h3,by rw[Qt];omega,?_,by rw[e,hr];exact QJ _ f,λi hi=>by rw[getD_set_ne _ Gk];exact h7 i Gk⟩;have e3:=Zae (splice u k l) k (by rw[Zen hk];omega);have e4:=Zae u k Gk
 have e5:(splice u k l).take k=u.take k:=by
  unfold splice;rw[QA,List.take_append_of_le_length Gg,List.take_of_length_le Gg]
 have e6:=Zh9 (l:=q) (k:=k) Gk Q;rw[h7 k Gk,Nat.mul_zero,Nat.add_zero]at e6;have e7:=Qs (val ((u.drop k).take (n+1))) V;rw[<- hq,<- hr,hw]at e7;rw[e3,e5,e,e6,QG];rw[e4,<- e7,QG]at h5;have:V*(pw k*Q)=pw k*(V*Q):=by grind
 omega
theorem DivI.start{a b:List Nat}{u:List Nat}{s n:Nat}(hu:val u=2^s*val a)(hul:u.length=a.length+1)(hult:Lt32 u)(hn:n<=a.length)(halt:Lt32 a)(hb:pw (n-1)<=val b)(hn0:0<n) :
    DivI (2^s*val a) (2^s*val b) n u (Qa (a.length+1-n) 0) (a.length+1-n):=by
 refine⟨hult,Lt32.replicate _,by simp;omega,by simp,by rw[Zel,hu];simp,?_,λi _=>Zd5 _ _⟩;have e1:=Zae u (a.length+1-n) Gk;have e2:=Zgq halt;have e3:pw a.length=pw (a.length+1-n)*pw (n-1):=by rw[<- Zcx];congr 1;omega
 have hp:0<2^s:=Qn Gk;have e4:2^s*val a<2^s*pw a.length:=Nat.mul_lt_mul_of_pos_left e2 hp;have e5:2^s*pw (n-1)<=2^s*val b:=Qd _ hb
 have e6:pw (a.length+1-n)*val (u.drop (a.length+1-n))<pw (a.length+1-n)*(2^s*pw (n-1)):=by
  have:pw (a.length+1-n)*(2^s*pw (n-1))=2^s*pw a.length:=by rw[e3];grind
  omega
 have:=Nat.lt_of_mul_lt_mul_left e6;omega
theorem DivI.stop{a b:Nat}{u q:List Nat}{s n:Nat}(h:DivI (2^s*a) (2^s*b) n u q 0):val q=a/b/\val u=2^s*(a%b):=by
 obtain⟨h1,h2,h3,h4,h5,h6,h7⟩:=h;rw[Qm]at h6;have hp:0<2^s:=Qn Gk;obtain⟨e1,e2⟩:=Zp5 (U:=2^s*a) (V:=2^s*b) (q:=val q) (R:=val u) (by rw[Qi (val q)];exact h5) h6;rw[Nat.mul_div_mul_left _ _ hp]at e1;rw[Nat.mul_mod_mul_left]at e2;exact⟨e1,e2⟩
theorem Zfy{v:Nat}(h:0<(digits v).length):(digits v)[(digits v).length-1]?.getD 0≠0:=by
 intro h0;have h1:=Zhk v;rw[List.getLast?_eq_getElem?]at h1;rw[Qe Gk]at h1 h0;simp at h0;rw[h0]at h1;exact h1 rfl
theorem Zqg{v:List Nat}{n:Nat}(hn:v.length=n)(h0:0<n):v[n-1]?.getD 0*pw (n-1)<=val v:=by
 have e:=Zae v (n-1) Gk;rw[Zbu Gk]at e;rw[QG]at e;rw[Qi];omega
theorem Zwh{u:List Nat}{n:Nat}(hn:u.length=n+1)(h0:0<n)(hlt:Lt32 u):val u<(u[n]?.getD 0*4294967296+u[n-1]?.getD 0+1)*pw (n-1):=by
 have e:=Zae u (n-1) Gk;rw[Zbu Gk,show n-1+1=n by omega,Zbu Gk,Qc Gk]at e;have h1:=Zgq (hlt.take (n-1));rw[Qo,QE Gk]at h1;rw[e];simp only[val];have:(u[n]?.getD 0*4294967296+u[n-1]?.getD 0+1)*pw (n-1)=pw (n-1)*(u[n-1]?.getD 0+4294967296*(u[n]?.getD 0+4294967296*0))+pw (n-1):=by grind
 omega
theorem top2_le{v:List Nat}{n:Nat}(hn:v.length=n)(h0:1<n):(v[n-1]?.getD 0*4294967296+v[n-2]?.getD 0)*pw (n-2)<=val v:=by
 have e:=Zae v (n-2) Gk;rw[Zbu Gk,show n-2+1=n-1 by omega,Zbu Gk]at e
 have:(v[n-1]?.getD 0*4294967296+v[n-2]?.getD 0)*pw (n-2)<=pw (n-2)*(v[n-2]?.getD 0+4294967296*(v[n-1]?.getD 0+4294967296*val (v.drop (n-1+1)))):=by
  rw[Qi];exact Qd _ Gk
 omega
theorem top3_lt{u:List Nat}{n:Nat}(hn:u.length=n+1)(h0:1<n)(hlt:Lt32 u):val u<((u[n]?.getD 0*4294967296+u[n-1]?.getD 0)*4294967296+u[n-2]?.getD 0+1)*pw (n-2):=by
 have e:=Zae u (n-2) Gk;rw[Zbu Gk,show n-2+1=n-1 by omega,Zbu Gk,show n-1+1=n by omega,Zbu Gk,Qc Gk]at e;have h1:=Zgq (hlt.take (n-2));rw[Qo,QE Gk]at h1;rw[e];simp only[val];have:((u[n]?.getD 0*4294967296+u[n-1]?.getD 0)*4294967296+u[n-2]?.getD 0+1)*pw (n-2)=pw (n-2)*(u[n-2]?.getD 0+4294967296*(u[n-1]?.getD 0+4294967296*(u[n]?.getD 0+4294967296*0)))+pw (n-2):=by grind
 omega
theorem MutL.reads{w:World}{g off:Nat}{l:List Nat}(h:MutL w g off l):Reads w w.heap.size 1 (some ⟨g,off,none⟩) l.length (l.map limb):=
 ⟨by simp,λhn=>⟨_,rfl,by have:=Zo (h 0 hn).1;exact this,λj u hu=>by
  rw[Zg]
  have hj:j<l.length:=by
   rcases QN j l.length with h'|h';exact h';rw[QI (by simpa using h')]at hu;cases hu
  rw[(h j hj).1];rw[QQ,Qe hj]at hu;rw[Qe hj];simpa using hu⟩⟩
theorem MutL.below{w w':World}{g off:Nat}{l:List Nat}(h:MutL w g off l)(hb:Below w.heap.size w w'):MutL w' g off l:=λj hj =>
 ⟨Za hb (h j hj).1,Zl hb (h j hj).1 (h j hj).2⟩
theorem MutL.win{w:World}{g off:Nat}{l:List Nat}(h:MutL w g off l){k n:Nat}(hk:k+n<=l.length):MutL w g (off+k) ((l.drop k).take n):=λj hj=>by
 rw[Qo,List.length_drop]at hj;have:=h (k+j) Gk;rw[QO,Gx Gk,QP,Nat.add_assoc];exact this
theorem MutL.splice{w:World}{g:Nat}{u l:List Nat}{k:Nat}(h:MutL w g 0 u)(hk:k+l.length<=u.length):MutL (w.setCells g k (l.map limb)) g 0 (splice u k l):=λj hj=>by
 rw[Zen hk]at hj;obtain⟨h1,h2⟩:=h j hj;rw[Qr]at h1 h2 ⊢;refine⟨?_,by rw[World.frozen?_setCells];exact h2⟩;by_cases hin:k<=j/\j<k+l.length
 ·obtain⟨i,rfl⟩:∃ i,j=k+i:=⟨j-k,by omega⟩
  rw[Zoy hk Gk]
  have:=World.cell?_setCells_in g (l.map limb) k w (λi hi=>by
   rw[Qh]at hi;have:=(h (k+i) Gk).1;rw[Qr]at this;rw[this];rfl) i (by rw[Qh];omega)
  rw[this];simp[Qe (show i<l.length by omega)]
 rw[Zns hk Gk,World.cell?_setCells_out g _ k w _ (λ_ _=>by rw[Qh];simp only[];omega)];exact h1
theorem Zxl{P:Program}{f:FuncId}{args:Array Value}{w:World}{a n:Nat}{v:Value}
    (h:Calls P f args (w.drewN (a+n)) λe w'=>e=.returned v/\∃ m,w'=(w.drewN (a+n)).drewN m) :
    Calls P f args (w.drewN (a+n)) λe w''=>e=.returned v/\∃ m,w''=w.drewN (a+m):=
 h.mono λ_ _ ⟨he,m,hm⟩=>⟨he,n+m,by rw[hm,World.drewN_drewN,Nat.add_assoc]⟩
theorem div32_q(x y d:Nat)(w:World)(hx:x<d)(hy:y<4294967296)(hd:d<4294967296) :
    Calls Tryz.prog 199 #[limb x,limb y,limb d] w λe w'=>e=.returned (.tuple #[limb ((x*4294967296+y)/d),limb ((x*4294967296+y)%d)])/\∃ m,w'=w.drewN m:=
 (Zpv x y d w hx hy hd).mono λ_ _ ⟨he,hm⟩=>⟨he,1,hm⟩
def StepP(w:World)(g off:Nat)(u v:List Nat)(e:Ending)(w':World):Prop:=
 ∃ l w1,e=.returned (limb (val u/val v))/\l.length=u.length/\Lt32 l/\val l=val u%val v/\Below w.heap.size w w1/\w'=w1.setCells g off (l.map limb)
theorem Zzz(g off n c d:Nat)(B:Option Addr)(u v:List Nat)(w:World)(hu:MutL w g off u)(hul:u.length=n+1)(hut:Lt32 u)(hnc:n+1<=c)(hcm:c<=maxLen)(hn9:n<=1000000)(hn0:0<n)
    (hv:Lim w B n d v) (hlt:val u<4294967296*val v) (htop:v[n-1]?.getD 0≠0) :
    Calls Tryz.prog 195 #[.slice (some ⟨g,off,none⟩) (n+1) c,.slice B n d] w (StepP w g off u v):=by
 unfold maxLen at hcm;have e0:=hv.2.1;have b5:=hv.2.2.1;unfold maxLen at b5;have a4:=hv.len;obtain⟨bv,ov,rfl,b3⟩:=hv.at_ (k:=n-1) Gk
 have hV:0<val v:=by
  rcases Qk (val v)with h0|h0;rw[h0]at hlt;omega;exact h0
 obtain⟨q,hq⟩:=Gz (val u/val v);have d3:q<4294967296:=by rw[<- hq,Qf hV];exact hlt
 have c5:=hut.get n;have Y:=hut.get (n-1);have b1:=hv.lt.get (n-1);have a7:=hu n Gk;have a2:=hu (n-1) Gk
 have C:u[n]?.getD 0<v[n-1]?.getD 0->q<=(u[n]?.getD 0*4294967296+u[n-1]?.getD 0)/v[n-1]?.getD 0:=λ_=>by
  rw[<- hq];exact Zpq Gk (Zqg a4 hn0) (Zwh hul hn0 hut)
 have T:u[n]?.getD 0<v[n-1]?.getD 0->(u[n]?.getD 0*4294967296+u[n-1]?.getD 0)/v[n-1]?.getD 0<4294967296:=λh=>by
  rw[Qf Gk];have:=Qd 4294967296 (show u[n]?.getD 0+1<=v[n-1]?.getD 0 by omega);omega
 have HQ:=Zb hq;have f:=Zb hul;have d0:=Zb a4;clear hq hul a4;have b4:=a7.1;have a1:=a2.1;obtain⟨x,hx⟩:=Gz (u[n]?.getD 0);obtain⟨y,hy⟩:=Gz (u[n-1]?.getD 0);obtain⟨z,hz⟩:=Gz (v[n-1]?.getD 0);rw[hx]at c5 b4;rw[hy]at Y a1;rw[hz]at b1 b3 htop;rw[hx,hy,hz]at C T;clear hx hy hz a7 a2;by_cases hc:x<z
 all_goals
  first
  | (have b9:decide (x<z)=true:=by simpa using hc)
  | (have b9:decide (x<z)=false:=by simpa using hc)
  go_in;go_wp2_with fail
  go_quiet (fail)
  go_wp2_with fail
  first
  | (go_quiet ((go_at_call 199;exact Zxl (div32_q _ _ _ _ hc Y b1))))
  | skip
  go_wp2_with fail
  go_loopw [6] (λgv wr=>∃ gs:Nat,gv=limb gs/\q<=gs/\gs<4294967296/\Below w.heap.size w wr) (λgv _=>(intOf gv).toNat)
  case atStart=>first|exact⟨_,rfl,C hc,T hc,Zf (Zf (Ql _ _) _) _⟩|exact⟨4294967295,rfl,by omega,by omega,Zf (Ql _ _) _⟩
  case round =>
   obtain⟨gs,rfl,c1,c2,hB⟩:=hrel;clear C T b4 a1;have a5:=hu.below hB;have c6:=hv.below hB;have d5:bv<wr.heap.size:=Qx (Zo b3) hB.size;have d6:g<wr.heap.size:=Qx (Zo (hu 0 (by rw[f.out];omega)).1) hB.size;have b8:Reads wr wr.heap.size 1 (some ⟨g,off,none⟩) (n+1) (u.map limb):=by have:=a5.reads;rw[f.out]at this;exact this
   go_wp2_with fail;refine(Zo9 ⟨g,off,none⟩ (n+1) c u _ b8 f.out hut Gk hnc (by unfold maxLen;omega)).mono ?_;rintro e w1 ⟨v1,rfl,a9,J⟩;obtain⟨g1,O,b0,c9,c8,a8,c7,b7⟩:=a9.mut (by rw[f.out];omega);rw[f.out]at b0 a8;subst b0;go_wp2_with fail;refine(Zp2 g1 0 n O d gs (some ⟨bv,ov,none⟩) u v _ b7 f.out hut a8 c7 Gk (c6.below J) (λb o e=>by injection e with e;injection e with e1 e2;omega) c2).mono ?_;rintro e w2 ⟨b,l,d4,rfl,c3,I,a3,hI,a6⟩;have b2:Below w.heap.size w w2:=(Gs hB J).grown a6 (by have:=J.size;have:=hB.size;omega) (λj hj=>by injection hj with hj;have:=hB.size;omega);rcases Qk b with rfl|d9
   ·obtain⟨a0,V⟩:=Zpf (U:=val u) (q:=gs) (W:=val l) hV (by rw[Nat.mul_zero]at hI;exact hI) (by rw[HQ.out];exact c1)
    have b6:∀ ty,(Builtin.copy_ #[37,37] ty #[.slice (some ⟨g,off,none⟩) (n+1) c,.slice (some ⟨g1,0,none⟩) (n+1) O]).run Tryz.prog w2=.ok (goInt ((n+1:Nat):Int)) (w2.setCells g off (l.map limb)):=λty=>by
     obtain⟨i0,hi,d8,c0,d7⟩:=info_parts Zdj
     have h:=run_copy_cells (P:=Tryz.prog) w2 37 37 ty 106 g off (n+1) c ⟨g1,0,none⟩ (n+1) O (l.map limb) Tryz.underlying37 (by rw[hi];simp[c0]) (by rw[Qh,I];exact(Nat.min_self _).symm)
      (λj x hx=>by
       have hj:j<l.length:=by
        rcases QN j l.length with h'|h';exact h';rw[QI (by simpa using h')]at hx;cases hx
       rw[Zg,(c3 j hj).1];rw[QQ,Qe hj]at hx;rw[Qe hj];simpa using hx)
      (λj hj=>by
       rw[Qh,I]at hj;have h3:=(a5 j (by rw[f.out];exact hj)).1;have h4:=Za J h3;rw[(World.cell?_of_block (a:=⟨g,off+j,none⟩) (a6.block g (by have:=J.size;omega) (λe=>by injection e with e;omega))),h4];rfl)
      (λj hj=>by
       rw[Qh,I]at hj;have h3:=a5 j (by rw[f.out];exact hj);have h4:=Zl J h3.1 h3.2;rw[(World.frozen?_of_block (a:=⟨g,off+j,none⟩) (a6.block g (by have:=J.size;omega) (λe=>by injection e with e;omega))),h4])
      (Zek l)
     rw[Qh,I]at h;exact h
    have hP:StepP w g off u v (.returned (limb gs)) (w2.setCells g off (l.map limb)):=⟨l,w2,by rw[a0],by rw[I,f.out],a3,V,b2,rfl⟩;replace hP:=Zb hP;clear a0 V hI I;go_wp2_with fail;go_ret;exact hP.out
   obtain rfl:b=1:=Gk
   have c4:q<gs:=by
    have:=Znu (q:=gs) (W:=val l) (M:=pw (n+1)) hV (by rw[Nat.mul_one]at hI;exact hI) (by have:=Zgq a3;rw[I]at this;exact this);rw[HQ.out]at this;exact this
   clear hI I;go_wp2_with fail
   go_roundw
   case rel=>exact⟨gs-1,by go_num,by omega,by omega,b2⟩
   case measure=>simp[intOf];omega
def OnlyNormal(Q:Exit->Act->World->Prop):Exit->Act->World->Prop
 | .normal,a,w=>Q .normal a w
 | _,_,_=>False
theorem OnlyNormal.no_out{Q:Exit->Act->World->Prop}(h:LetsOut (OnlyNormal Q)):False:=by
 obtain⟨a,w,h⟩:=h;exact h
theorem OnlyNormal.normal{Q:Exit->Act->World->Prop}{a:Act}{w:World}(h:Q .normal a w):OnlyNormal Q .normal a w:=h
theorem Zb3{l n:Nat}{P:Program}{ops:Array Oper}{Q:Exit->Act->World->Prop}(hnd:∀ (i:Nat) (o:Oper),ops[i]?=some o->∀ c,o.op ≠ .defer c) :
    ∀ (is:List Nat) (a:Act) (w:World),wpOps P ops (OnlyNormal Q) is a w->wpOpsIn (Fence.wide.inRound l) n P ops Q is a w
 | [],_,_,h=>h
 | i::rest,a,w,h=>by
  simp only[wpOps]at h;simp only[wpOpsIn];cases ho:ops[i]? with
  | none=>simp only[ho]at h ⊢;exact Zb3 hnd rest a w h
  | some o =>
   simp only[ho]at h ⊢;by_cases hw:Region.wanted o (yielded ops a.tmps)=true
   ·simp only[hw,if_true]at h ⊢
    rcases h with h|⟨_,h⟩
    ·refine⟨λ_ _=>trivial,?_⟩
     rw[Oper.semAt_eq _ _ _ (hnd i o ho)];unfold Oper.wp at h;generalize (execOp a.eval o).run P w=r at *;cases r with
     | ok x w' =>
      cases x with
      | value v=>exact Zb3 hnd rest _ _ h
      | skip=>exact Zb3 hnd rest _ _ h
      | defer d=>exact Zb3 hnd rest _ _ h
      | enter f args =>
       refine⟨(λh=>by cases h),CallsIn.inRound l (callsIn_wide.2 (Calls.mono h λe w'' he=>?_))⟩;cases e with
       | returned v=>exact Zb3 hnd rest _ _ he
       | panicked c=>exact(he:False).elim
       | outgrown=>exact(OnlyNormal.no_out he).elim
      | row row args =>
       refine⟨(λh=>by cases h),λc cs _=>?_⟩;obtain⟨v,w'',hR,hs⟩:=h c cs;exact⟨v,w'',Zb3 hnd rest _ _ hR,stepsIn_wide.2 hs⟩
      | _=>exact(h:False).elim
     | halt x w'=>cases x <;> exact(h:False).elim
    exact(OnlyNormal.no_out h).elim
   simp only[hw,if_false,Bool.false_eq_true]at h ⊢;exact⟨λ_ _=>trivial,Zb3 hnd rest _ _ h⟩
def Zkk(ops:Array Oper):Bool:=ops.all λo=>match o.op with | .defer _=>false|_=>true
theorem Zoo{ops:Array Oper}(h:Zkk ops=true):∀ (i:Nat) (o:Oper),ops[i]?=some o->∀ c,o.op ≠ .defer c:=by
 intro i o ho c hc;unfold Zkk at h;rw[Array.all_eq_true]at h;obtain⟨hi,rfl⟩:=Array.getElem?_eq_some_iff.1 ho;have:=h i hi;rw[hc]at this;cases this
def Zcz(L:List Nat)(listed:Array Bool):Bool:=L.all λk=>!(listed.getD k true)
def Zab(P:Program)(md:Region.Mode)(ops:Array Oper)(Q:Exit->Act->World->Prop)(L:List Nat)(S:World->Prop):Nat->Array Bool->Act->World->Prop
 | 0,listed,a,w=>Region.ready md ops listed=[]/\Q .normal a w
 | fuel+1,listed,a,w =>
  (Region.ready md ops listed=[]->Q .normal a w) /\
  ∀ i ∈ Region.ready md ops listed,wpOp P ops Q i (λa' w'=>(Zcz L (listed.setIfInBounds i true)=true->S w')/\Zab P md ops Q L S fuel (listed.setIfInBounds i true) a' w') a w
section
variable{P:Program}{ops:Array Oper}{Q:Exit->Act->World->Prop}{md:Region.Mode}{L:List Nat}{S:World->Prop}
theorem Zi5:∀ (fuel:Nat) (listed:Array Bool) (a:Act) (w:World),Zab P md ops Q L S fuel listed a w->wpAny P md ops Q fuel listed a w
 | 0,_,_,_,h=>h
 | fuel+1,_,_,_,h=>⟨h.1,λi hi=>wpOp_mono (λa' w' h'=>Zi5 fuel _ a' w' h'.2) (h.2 i hi)⟩
theorem Zdg{listed:Array Bool}{j:Nat}(hj:j ∉ L):Zcz L (listed.setIfInBounds j true)=Zcz L listed:=by
 unfold Zcz;rw[Bool.eq_iff_iff,Qp,Qp];have:∀ k ∈ L,(listed.setIfInBounds j true).getD k true=listed.getD k true:=λk hk=>Go.getD_set_ne true (λe=>hj (e▸hk));constructor;intro h k hk;rw[<- this k hk];exact h k hk;intro h k hk;rw[this k hk];exact h k hk
def Zix(md:Region.Mode)(ops:Array Oper)(L:List Nat)(i:Nat):Bool:=L.all λk=>k != i && (match ops[k]? with|some o=>o.after.any λe=>Region.binds md e && e.on == i|none=>false)
theorem Ig{G:Prop}(h:G:=by
 refine bM k ok hk hki ?_ iJ;by_cases fY:j=k;subst fY;exact dv;rw[Go.getD_set_ne true fY]at hun;exact hun):G:=h
theorem FO{G:Prop}(h:G:=by
 have h1:=au e he hb;have h0:=(mem_ready.1 hr).1;rw[heq]at h1;rcases Nat.lt_or_ge i listed.size with h'|h';simp[h']at h0 h1;rw[h0]at h1;cases h1;simp[Array.getElem?_eq_none h']at h1):G:=h
theorem Zqf{i:Nat}{oi:Oper}{v:Value}(hi:ops[i]?=some oi)(hsel:∀ (j:Nat) (o:Oper) cs b,ops[j]?=some o->o.op ≠ .select cs b)
    (hQ:∀ c a w,Q (.panic c) (a.put oi.dst v) w->Q (.panic c) a w) (hL:Zix md ops L i=true) :
    ∀ (fuel:Nat) (listed:Array Bool) (a:Act) (w:World),
     (∀ j oj,ops[j]?=some oj->j≠i->listed.getD j true=false->(∀ e ∈ oj.after,Region.binds md e=true->e.on≠i)->oi.apart ops oj=true) ->
     i ∈ Region.ready md ops listed->YieldsIf P ops S oi v a->Zcz L listed=true->S w ->
     Zab P md ops Q L S fuel (listed.setIfInBounds i true) (a.put oi.dst v) w->Zab P md ops Q L S (fuel+1) listed a w:=by
 have I:i ∉ L:=λh=>by
  unfold Zix at hL;rw[Qp]at hL;have:=hL i h;simp at this
 intro fuel
 induction fuel with
 | zero =>
  intro listed a w _ hr hy hn hS H;refine⟨λh=>(by rw[h]at hr;cases hr),λj hj=>?_⟩;by_cases hji:j=i;subst hji;exact hy.wpOp hi hS ⟨λ_=>hS,H⟩;have:=ready_mono hj hji;rw[H.1]at this;cases this
 | succ fuel ih =>
  intro listed a w bM hr hy hn hS H;refine⟨λh=>(by rw[h]at hr;cases hr),λj hj=>?_⟩;by_cases hji:j=i;subst hji;exact hy.wpOp hi hS ⟨λ_=>hS,H⟩;have h1:=H.2 j (ready_mono hj hji);obtain⟨dv,oj,y,au⟩:=mem_ready.1 hj
  have C:∀ e ∈ oj.after,Region.binds md e=true->e.on≠i:=λe he hb heq=>by
   exact FO
  have f:j ∉ L:=λf=>by
   unfold Zix at hL;rw[Qp]at hL;have h2:=hL j f;rw[y]at h2;simp only[QD,Array.any_eq_true']at h2;obtain⟨_,e,he,h3,h4⟩:=h2;exact C e he h3 (by simpa using h4)
  have h2:=wpOp_putIf y (bM j oj y hji dv C) (λcs b=>hsel i oi cs b hi) (λcs b=>hsel j oj cs b y) hQ hy h1
  have u:∀ k ok,ops[k]?=some ok->k≠i->(listed.setIfInBounds j true).getD k true=false ->
      (∀ e ∈ ok.after,Region.binds md e=true->e.on≠i)->oi.apart ops ok=true:=λk ok hk hki hun iJ=>by
   exact Ig
  have J:Zcz L (listed.setIfInBounds j true)=true:=by rw[Zdg f];exact hn
  refine wpOp_mono (λa' w' h3=>⟨λ_=>h3.2.1 (by rw[Zdg f,Zdg I];exact hn),ih (listed.setIfInBounds j true) a' w' u (ready_mono hr (Ne.symm hji)) h3.1 J (h3.2.1 (by rw[Zdg f,Zdg I];exact hn)) ?_⟩) h2;rw[Array.setIfInBounds_comm _ _ hji];exact h3.2.2
theorem Zd{i:Nat}{oi:Oper}{v:Value}{fuel:Nat}{listed:Array Bool}{a:Act}{w:World}(hi:ops[i]?=some oi)
    (hs:Region.noSelect ops=true) (hf:Region.free md ops listed i=true) (hr:(Region.ready md ops listed).contains i=true) (hL:Zix md ops L i=true) (hn:Zcz L listed=true)
    (hy:YieldsIf P ops S oi v a) (hS:S w)
    (h:Zab P md ops (OnlyNormal Q) L S fuel (listed.setIfInBounds i true) (a.put oi.dst v) w):Zab P md ops (OnlyNormal Q) L S (fuel+1) listed a w:=
 Zqf hi (Region.noSelect_spec hs) (λ_ _ _ h=>(h:False).elim) hL fuel listed a w (Region.free_spec hi hf) (by simpa using hr) hy hn hS h
theorem Ze{i:Nat}{o:Oper}{fuel:Nat}{listed:Array Bool}{a:Act}{w:World}(ho:ops[i]?=some o)(hr:Region.ready md ops listed=[i])
    (h:∀ K':Act->World->Prop,Shut (∀ a w,(Zcz L (listed.setIfInBounds i true)=true->S w)->Zab P md ops Q L S fuel (listed.setIfInBounds i true) a w->K' a w)->if Region.wanted o (yielded ops a.tmps)=true then Oper.wp P o a w K' Q else K' (a.put o.dst undef) w) :
    Zab P md ops Q L S (fuel+1) listed a w:=
 ⟨(λh0=>by rw[h0]at hr;cases hr),λj hj=>by
  rw[hr,List.mem_singleton]at hj;subst hj;exact wpOp_step ho (λK' hK=>h K' (λa w hS hW=>hK a w ⟨hS,hW⟩))⟩
theorem Zv{i:Nat}{o:Oper}{fuel:Nat}{listed:Array Bool}{a:Act}{w:World}(ho:ops[i]?=some o)(hr:Region.ready md ops listed=[i])(hn:Zcz L (listed.setIfInBounds i true)=false)
    (h:∀ K':Act->World->Prop,Shut (∀ a w,Zab P md ops Q L S fuel (listed.setIfInBounds i true) a w->K' a w)->if Region.wanted o (yielded ops a.tmps)=true then Oper.wp P o a w K' Q else K' (a.put o.dst undef) w) :
    Zab P md ops Q L S (fuel+1) listed a w:=
 Ze ho hr λK hK=>h K λa w hW=>hK a w (λh=>by rw[hn]at h;cases h) hW
theorem Zk{listed:Array Bool}{a:Act}{w:World}(hr:Region.ready md ops listed=[])(h:Q .normal a w):∀ fuel,Zab P md ops Q L S fuel listed a w
 | 0=>⟨hr,h⟩
 | _+1=>⟨λ_=>h,by rw[hr];simp⟩
end
theorem Zbc{l n:Nat}{P:Program}{id:Nat}{ops:Array Oper}{Q:Exit->Act->World->Prop}{a:Act}{w:World}(L:List Nat)(S:World->Prop)(hm:P.follows .mixedOrders=true)(hnd:Zkk ops=true)
    (hS:S w.drew) (h:S w.drew->Zab P .any ops (OnlyNormal Q) L S ops.size (Array.replicate ops.size false) a w.drew):(Code.region id ops true).wpIn (Fence.wide.inRound l) n P Q a w:=
 wpIn_region_draw λt=>Zb3 (Zoo hnd) _ _ _ (by
  simp only[Region.schedule,hm,Bool.true_or,if_true];exact wpAny_sound ops.size t _ a _ (Zi5 _ _ _ _ (h hS)))
theorem Zhb{α:Type}(l:List α)(i:Nat)(a:α):l.toArray.setIfInBounds i a=(l.set i a).toArray:=List.setIfInBounds_toArray l i a
theorem Zgo{α:Type}(a b:α)(l:List α):(a::l).set 0 b=b::l:=rfl
theorem Zg6{α:Type}(a b:α)(l:List α)(n:Nat):(a::l).set (n+1) b=a::l.set n b:=rfl
def Zg7(md:Region.Mode)(ops:Array Oper)(L:List Nat):List Nat->Array Bool->Bool
 | [],_=>true
 | i::is,l=>Region.free md ops l i && (Region.ready md ops l).contains i && Zix md ops L i && Zcz L l && Zg7 md ops L is (l.setIfInBounds i true)
def Zcy(P:Program)(ops:Array Oper)(S:World->Prop):List Nat->Act->(Act->Prop)->Prop
 | [],a,R=>R a
 | i::is,a,R=>∃ oi v,ops[i]?=some oi/\YieldsIf P ops S oi v a/\Zcy P ops S is (a.put oi.dst v) R
def Zd2:List Nat->Array Bool->Array Bool
 | [],l=>l
 | i::is,l=>Zd2 is (l.setIfInBounds i true)
theorem Gr{α:Type}(l:List α)(i:Nat)(h:i<l.toArray.size):l.toArray[i]=l[i]'(by simpa using h):=by simp
theorem Gp{α:Type}(a:α)(l:List α)(h:0<(a::l).length):(a::l)[0]'h=a:=rfl
theorem Gq{α:Type}(a:α)(l:List α)(i:Nat)(h:i+1<(a::l).length):(a::l)[i+1]'h=l[i]'(by simpa using h):=rfl
section
variable{P:Program}{ops:Array Oper}{Q:Exit->Act->World->Prop}{md:Region.Mode}{L:List Nat}{S:World->Prop}{R:Act->Prop}
theorem tk0{a:Act}(h:R a):Zcy P ops S [] a R:=h
theorem tk1{i:Nat}{is:List Nat}{oi:Oper}{v:Value}{a:Act}(ho:ops[i]?=some oi)(hy:YieldsIf P ops S oi v a)(h:Zcy P ops S is (a.put oi.dst v) R):Zcy P ops S (i::is) a R:=⟨oi,v,ho,hy,h⟩
theorem tkA{i:Nat}{is:List Nat}{oi:Oper}{v:Value}{a:Act}(h:Zcy P ops S is (a.put oi.dst v) R)(ho:ops[i]?=some oi:=by rfl)(hy:YieldsIf P ops S oi v a:=by refine Or.inl ⟨by kernel_rfl,?_⟩;intro W2 hSw;(try dsimp only at hSw);go_simp;try with_reducible rfl):Zcy P ops S (i::is) a R:=⟨oi,v,ho,hy,h⟩
theorem wpAnyL_o(i:Nat){o:Oper}{fuel:Nat}{listed:Array Bool}{a:Act}{w:World}{Q0:Exit->Act->World->Prop}(h:∀ K':Act->World->Prop,Shut (∀ a w,(Zcz L (listed.setIfInBounds i true)=true->S w)->Zab P md ops Q0 L S fuel (listed.setIfInBounds i true) a w->K' a w)->if Region.wanted o (yielded ops a.tmps)=true then Oper.wp P o a w K' Q0 else K' (a.put o.dst undef) w)(ho:ops[i]?=some o:=by rfl)(hr:Region.ready md ops listed=[i]:=by kernel_rfl):Zab P md ops Q0 L S (fuel+1) listed a w:=Ze ho hr h
theorem wpAnyL_fin{fuel:Nat}{listed:Array Bool}{a:Act}{w:World}(h:Q .normal a w)(hr:Region.ready md ops listed=[]:=by kernel_rfl):Zab P md ops (OnlyNormal Q) L S fuel listed a w:=Zk hr (OnlyNormal.normal h) fuel
theorem Zf1(hs:Region.noSelect ops=true){w:World}(hS:S w):∀ (is:List Nat) (F:Nat) (listed:Array Bool) (a:Act),Zg7 md ops L is listed=true->Zcy P ops S is a (λa'=>Zab P md ops (OnlyNormal Q) L S F (Zd2 is listed) a' w)->Zab P md ops (OnlyNormal Q) L S (F+is.length) listed a w
 | [],F,l,a,_,h=>h
 | i::is,F,l,a,hc,h=>by
  obtain⟨oi,v,ho,hy,h2⟩:=h;simp only[Zg7,QD]at hc;exact Zd ho hs hc.1.1.1.1 hc.1.1.1.2 hc.1.1.2 hc.1.2 hy hS (Zf1 hs hS is F _ _ hc.2 h2)
theorem Zj9{F:Nat}{listed:Array Bool}{a:Act}{w:World}(k:Nat)(is:List Nat)(hk:is.length=k)(hc:(Region.noSelect ops && Zg7 md ops L is listed)=true)(hS:S w)
    (h:Zcy P ops S is a (λa'=>Zab P md ops (OnlyNormal Q) L S F (Zd2 is listed) a' w)):Zab P md ops (OnlyNormal Q) L S (F+k) listed a w:=by
 rw[QD]at hc;subst hk;exact Zf1 hc.1 hS is F listed a hc.2 h
end
open Go.RowKit Go.Shelf
attribute [local go_sem] Oper.semAt_some
theorem Zc8{W W':World}{row:Option Nat}{g:Nat}{t:TypeId}{cs:Array Value}(h:Blk W g t cs)(hg:W.grownBy W' row)(hrow:∀ r,row=some r->∃ o:Obj,W.heap[r]?=some o/\o.isCells=false):Blk W' g t cs:=
 (hg.block g h.lt (λe=>by
  obtain⟨o,ho,hc⟩:=hrow g e.symm;unfold Blk at h;rw[h]at ho;cases ho;cases hc)).trans h
theorem Zr0{n:Nat}{pre:List { i:Nat // i<n }}{x:{ i:Nat // i<n }}(hl:pre.length<n)(h:pre ++ [x]=Zdh n (pre.length+1)):pre=Zdh n pre.length/\x.1=n-1-pre.length:=by
 rw[Zdw hl]at h;obtain⟨h1,h2⟩:=List.append_inj' h rfl;refine⟨h1,?_⟩;have:=congrArg (List.map (λz:{ i:Nat // i<n }=>z.1)) h2;simpa using this
def DownI(h n D:Nat)(l:List Nat)(rb:Nat->Value)(t6 t7:TypeId)(B0:Value)(tB:TypeId)(pre:List { i:Nat // i<n })(W:World):Prop:=
 ∃ (o:List Nat) (r:Nat),Blk W h tB #[B0]/\Blk W (h+1) 106 (Zz o)/\Blk W (h+1+1) t6 #[.slice (some ⟨h+1,0,none⟩) n n]/\Blk W (h+1+1+1) t7 #[rb r]/\o.length=n/\Lt32 o/\r<D /\
  (pre=Zdh n pre.length->val (o.drop (n-pre.length))*D+r=val (l.drop (n-pre.length)))
theorem DownI.own{h n D:Nat}{l:List Nat}{rb:Nat->Value}{t6 t7:TypeId}{B0:Value}{tB:TypeId}{pre:List { i:Nat // i<n }}{W W':World}{row:Option Nat}(H:DownI h n D l rb t6 t7 B0 tB pre W)(hg:W.grownBy W' row)(hr:∀ r,row=some r->∃ o:Obj,W.heap[r]?=some o/\o.isCells=false):DownI h n D l rb t6 t7 B0 tB pre W':=by
 obtain⟨o,r,h1,h2,h3,h4,h5⟩:=H;exact⟨o,r,Zc8 h1 hg hr,Zc8 h2 hg hr,Zc8 h3 hg hr,Zc8 h4 hg hr,h5⟩
theorem DownI.step{h n D:Nat}{l:List Nat}{rb:Nat->Value}{t6 t7:TypeId}{B0:Value}{tB:TypeId}{pre:List { i:Nat // i<n }}{x:{ i:Nat // i<n }}{W':World}{o:List Nat}{r q r':Nat}
    (h1:Blk W' h tB #[B0]) (h2:Blk W' (h+1) 106 (Zz (o.set x.1 q))) (h3:Blk W' (h+1+1) t6 #[.slice (some ⟨h+1,0,none⟩) n n]) (h4:Blk W' (h+1+1+1) t7 #[rb r']) (h5:o.length=n) (h6:Lt32 o) (hq:q<4294967296) (hr:r'<D)
    (hl:l.length=n) (hp:pre.length<n) (hI:pre=Zdh n pre.length->val (o.drop (n-pre.length))*D+r=val (l.drop (n-pre.length))) (he:q*D+r'=r*4294967296+l[x.1]?.getD 0):DownI h n D l rb t6 t7 B0 tB (pre ++ [x]) W':=by
 refine⟨o.set x.1 q,r',h1,h2,h3,h4,by rw[Qt];exact h5,h6.set _ hq,hr,λe=>?_⟩;rw[List.length_append,List.length_singleton]at e ⊢;obtain⟨e1,e2⟩:=Zr0 hp e;have hI:=hI e1;rw[show n-(pre.length+1)=x.1 by omega];rw[show n-pre.length=x.1+1 by omega]at hI;exact Zo1 Gk Gk hI he
theorem trim_q(A:Option Addr)(n c:Nat)(l:List Nat)(w:World)(h:Lim w A n c l) :
    Calls Tryz.prog 185 #[.slice A n c] w λe w'=>e=.returned (.slice A (digits (val l)).length c)/\∃ m,w'=w.drewN m:=
 (Zgd A n c l w h).mono λ_ _ ⟨he,hw⟩=>⟨he,0,hw.symm⟩
def ShortP(w:World)(a d:Nat)(e:Ending)(w':World):Prop:=
 ∃ A n c,e=.returned (.tuple #[.slice A n c,limb (a%d)])/\Lim w' A n c (digits (a/d))/\Below w.heap.size w w'
theorem IK{G:Prop}(h:G:=by
 exact(Zf hB nq).trans (belowK_b (w:=w) (Nat.le_refl _) _ D _ _ (by simp at hD;omega) dZ rfl rfl)):G:=h
theorem Il{G:Prop}(h:G:=by
 have:=Nat.mul_le_mul_left 4294967296 (show r+1<=d by omega);omega):G:=h
theorem Zxg(A:Option Addr)(n c d:Nat)(l:List Nat)(w:World)(hl:Lim w A n c l)(hd0:0<d)(hd:d<4294967296)(hn9:n<=1000000) :
    Calls Tryz.prog 193 #[.slice A n c,limb d] w (ShortP w (val l) d):=by
 obtain⟨i0,hi,T,a1,a3⟩:=info_parts Zdj;have a7:=Zgs (P:=Tryz.prog) 37 106 Tryz.underlying37 hi T a1 a3 (n:Int) n rfl Gk;have a6:=hl.2.1;have O:=hl.2.2.1;unfold maxLen at O;have h9:1<=9:=Gk;refine(callsIn_wide (n:=9)).1 ?_;refine callsIn_of_wp_marks Tryz.func193 rfl trivial ?_ rfl;simp only[Tryz.ntmps193,QR,QT,Qu,Nat.reduceAdd,Nat.reduceSub,QK,QL,QS,QM,QF,QU]
 gi_wp2_with (refine⟨trivial,?_⟩;gi_at_call 190;refine(callsIn_wide.2 (Zmy _ _ _ _)).mono ?_;rintro e w' ⟨rfl,rfl⟩)
 have bD:=Qw w 106 #[limb d];have bO:=Qw (w.alloc (.cells #[limb d] 106)) 106 (Zz (Qa n 0));have b6:=Qw ((w.alloc (.cells #[limb d] 106)).alloc (.cells (Zz (Qa n 0)) 106)) 37 #[.slice (some ⟨w.heap.size+1,0,none⟩) n n];have b7:=Qw (((w.alloc (.cells #[limb d] 106)).alloc (.cells (Zz (Qa n 0)) 106)).alloc (.cells #[.slice (some ⟨w.heap.size+1,0,none⟩) n n] 37)) 106 #[limb 0];have bN:=Boxed.new ((((w.alloc (.cells #[limb d] 106)).alloc (.cells (Zz (Qa n 0)) 106)).alloc (.cells #[.slice (some ⟨w.heap.size+1,0,none⟩) n n] 37)).alloc (.cells #[limb 0] 106)) 37 (.slice A n c);simp only[QV]at bO b6 b7 bN;have C:Below w.heap.size w (((((w.alloc (.cells #[limb d] 106)).alloc (.cells (Zz (Qa n 0)) 106)).alloc (.cells #[.slice (some ⟨w.heap.size+1,0,none⟩) n n] 37)).alloc (.cells #[limb 0] 106)).alloc (.cells #[.slice A n c] 37)):=by go_grown
 have h0:DownI w.heap.size n d l limb 37 106 (limb d) 106 [] (((((w.alloc (.cells #[limb d] 106)).alloc (.cells (Zz (Qa n 0)) 106)).alloc (.cells #[.slice (some ⟨w.heap.size+1,0,none⟩) n n] 37)).alloc (.cells #[limb 0] 106)).alloc (.cells #[.slice A n c] 37)):=
  ⟨Qa n 0,0,(((bD.alloc _).alloc _).alloc _).alloc _,((bO.alloc _).alloc _).alloc _,(b6.alloc _).alloc _,b7.alloc _,by simp,Lt32.replicate _,hd0,λ_=>by rw[Qu,Nat.sub_zero,Qc Gh,Qc (by rw[hl.len];exact Qg _)];simp[val]⟩
 have hmx:=Gt
 refine wpIn_rangeFunc_ownF rfl h9 (gf:=198) (lb:=#[.pointer (some ⟨w.heap.size+1+1+1+1,0,none⟩)]) rfl trivial (enters_of Tryz.func198 Gi rfl)
  (Zje 8 Gk (w.heap.size+1+1+1+1) n c A l _ bN.cell (hl.below C)) KpD.trans (λW l o o' _ h hc _=>KpD.put W l o o' h hc) (Ql _ _) (λ_=>rfl)
  (λpre W=>DownI w.heap.size n d l limb 37 106 (limb d) 106 pre W/\Below w.heap.size w W)
  (λ_ _ _=>False)
  (OwnFrom.and (Own.from (λs X Y row hs hg hr=>hs.own hg hr) _) (ownFrom_below (Qg _) Gg))
  (λcc=>Own.from (λs X Y row hs hg hr=>hs) _)
  ⟨h0,C⟩
  (λx=>{ tmps:=#[.slice A n c,limb d,undef,.pointer (some ⟨w.heap.size,0,none⟩),.slice none 0 0,.int .u32 0,.pointer (some ⟨w.heap.size+1+1,0,none⟩),.pointer (some ⟨w.heap.size+1+1+1,0,none⟩),.int .i64 (x.1:Int),limb (l[x.1]?.getD 0),.slice A n c,
   .int .i64 n,.slice (some ⟨w.heap.size+1,0,none⟩) n n,.slice A n c,.func (.func 198) #[] #[.pointer (some ⟨w.heap.size+1+1+1+1,0,none⟩)],.int .i64 (x.1:Int),limb (l[x.1]?.getD 0),
   undef,undef,undef,undef,undef,undef,undef,undef,undef,undef,undef,undef,undef],defers:=[] }) ?assign ?body ?done ?stop
 case assign =>
  exact Ct
 case body =>
  rintro lp pre x W ⟨⟨o,r,k1,k2,k3,k4,k5,k6,k7,k8⟩,hB⟩ I;obtain⟨i,y⟩:=x;have k8:=Zb k8;have k5:=Zb k5;have c1:=k1.cell 0;have c3:=k3.cell 0;have c4:=k4.cell 0;have f4:=k4.frozen 0;have c2:=k2.cell i;rw[Zas o i (by rw[k5.out];exact y)]at c2;have f2:=k2.frozen i;simp at c1 c3 c4;have hx:=hl.lt.get i
  gi_wp2
  refine Zbc [11] (λW'=>W'.cell? ⟨w.heap.size,0,none⟩=some (limb d)/\W'.cell? ⟨w.heap.size+1+1,0,none⟩=some (.slice (some ⟨w.heap.size+1,0,none⟩) n n)/\W'.cell? ⟨w.heap.size+1+1+1,0,none⟩=some (limb r)) hmx Gi ⟨c1,c3,c4⟩ (λ_=>?_);refine Zj9 5 [0,1,2,3,4] rfl Gi ⟨c1,c3,c4⟩ ?_
  iterate 5 (refine tkA ?_;try simp only[Qq,Zhb,Zgo,Zg6,Gr,Gq,Gp])
  refine tk0 ?_;refine wpAnyL_o 5 λK hK=>?_;go_simp;refine(Zpv _ _ _ _ k7 hx hd).mono ?_;rintro e w2 ⟨rfl,rfl⟩;refine hK.out _ _ (λ_=>⟨c1,c3,c4⟩) ?_;clear hK K
  try simp only[Qq,Zhb,Zgo,Zg6]
  refine Zj9 4 [6,7,9,8] rfl Gi ⟨c1,c3,c4⟩ ?_
  iterate 4 (refine tkA ?_;try simp only[Qq,Zhb,Zgo,Zg6,Gr,Gq,Gp])
  refine tk0 ?_;refine wpAnyL_o 10 λK hK=>?_;go_simp;generalize f:World.drew (World.drew (World.setCell W _ _))=W5;have a2:W5.cell? ⟨w.heap.size,0,none⟩=some (limb d):=by rw[<- f];exact(Qb _ _ _ _ Gh).trans c1
  have a0:W5.cell? ⟨w.heap.size+1+1,0,none⟩=some (.slice (some ⟨w.heap.size+1,0,none⟩) n n):=by rw[<- f];exact(Qb _ _ _ _ Gh).trans c3
  have a4:W5.cell? ⟨w.heap.size+1+1+1,0,none⟩=some (limb r):=by rw[<- f];exact(Qb _ _ _ _ Gh).trans c4
  have a5:W5.frozen? ⟨w.heap.size+1+1+1,0,none⟩=false:=by rw[<- f];exact(World.frozen?_setCell _ _ _ _).trans f4
  replace f:=Zb f;refine hK.out _ _ (λ_=>⟨a2,a0,a4⟩) ?_;clear hK K
  try simp only[Qq,Zhb,Zgo,Zg6]
  refine Zv (i:=11) rfl Gi Gi (λK hK=>?_);go_simp;refine hK.out _ _ ?_;clear hK K
  try simp only[Qq,Zhb,Zgo,Zg6]
  refine wpAnyL_fin ?_
  gi_wp2
  have e1:((r:Int)*4294967296+((l[i]?.getD 0:Nat):Int))/(d:Int)=(((r*4294967296+l[i]?.getD 0)/d:Nat):Int):=Gh;have e2:((r:Int)*4294967296+((l[i]?.getD 0:Nat):Int))%(d:Int)=(((r*4294967296+l[i]?.getD 0)%d:Nat):Int):=Gh;have f:=f.out;rw[e1]at f;rw[e2]
  have hq:(r*4294967296+l[i]?.getD 0)/d<4294967296:=by
   rw[Qf Gk];exact Il
  have hr:(r*4294967296+l[i]?.getD 0)%d<d:=QJ _ hd0;have he:(r*4294967296+l[i]?.getD 0)/d*d+(r*4294967296+l[i]?.getD 0)%d=r*4294967296+l[i]?.getD 0:=by rw[Qi];exact Qs _ _
  generalize (r*4294967296+l[i]?.getD 0)/d=q at *;generalize (r*4294967296+l[i]?.getD 0)%d=r' at *;subst f;refine⟨((KeepsOthers.setCell _ _ _).trans (KeepsOthers.drew _)).trans ((KeepsOthers.drew _).trans (KeepsOthers.setCell _ _ _)),(KpD.set_ (w:=w) (o:=i) hl Gk Gk (limb q)).trans (KpD.set_ (w:=w) (o:=0) hl Gk Gk (limb r')),?_,?_⟩
  ·refine DownI.step (x:=⟨i,y⟩) (((k1.far Gf _).drewN 2).far Gf _) ?_ (((k3.far Gf _).drewN 2).far Gf _) (((k4.far Gf _).drewN 2).set_ 0 (limb r')) k5.out k6 hq hr hl.len I k8.out he
   have:=((k2.set_ i (limb q)).drewN 2).far (p:=⟨w.heap.size+1+1+1,0,none⟩) Gf (limb r');rw[Zb2]at this;exact this
  exact(Zf (hB.setCell (p:=⟨w.heap.size+1,i,none⟩) Gh _) 2).setCell (p:=⟨w.heap.size+1+1+1,0,none⟩) Gg _
 case done =>
  rintro D ys W hD rfl ⟨⟨o,r,k1,k2,k3,k4,k5,k6,k7,k8⟩,hB⟩ hK;have k8:=k8 (by rw[Zdn (Qg _)]);rw[Zdn (Qg _),Nat.sub_self,Qm,Qm]at k8;obtain⟨e1,e2⟩:=Zp5 (U:=val l) (V:=d) (q:=val o) (R:=r) Gk k7;have u:=Lim.of_blk k2 k6 (by rw[k5];unfold maxLen;omega);rw[k5]at u;have k8:=Zb k8;have k5:=Zb k5;have c3:=k3.cell 0;have c4:=k4.cell 0;simp at c3 c4
  gi_wp2
  refine wpIn_wide.2 ?_
  go_quiet ((go_at_call 185;exact Calls.quiet_of (trim_q _ _ _ _ _ u)))
  gi_wp2
  have dZ:(W.drewN nq).heap[D]?=some (.deferred (some [])):=hK;refine⟨by simp,.inl ⟨_,_,rfl,run_takeDeferred dZ,?_⟩⟩;have J:=Zhj (u.canon.1.drewN nq) (grownBy_putObj' (W.drewN nq) D (.deferred none)) (λr e=>by cases e;exact⟨_,dZ,rfl⟩);rw[e1]at J;refine⟨.tuple #[.slice (some ⟨w.heap.size+1,0,none⟩) (digits (val o)).length n,limb (val l%d)],by simp[results,Tryz.f193,go_sem],⟨_,_,_,by rw[e1],J,?_⟩⟩;exact IK
 case stop =>
  rintro D c pre W _ _ h _;exact h.elim
theorem or_add{a b s:Nat}(hb:b<2^s):b ||| 2^s*a=b+2^s*a:=by
 have h2:=Qj (i:=s) (b:=b) hb a;rw[Nat.or_comm,<- h2,Nat.add_comm]
def LeftP(w:World)(s:Nat)(l:List Nat)(i cy:Nat)(v:Value)(wr:World):Prop:=
 ∃ o,OwnL 106 wr w.heap.size v o/\o.length=i/\cy<2^s/\val o+pw i*cy=2^s*val (l.take i)/\Below w.heap.size w wr
theorem Fw{G:Prop}(h:G:=by
 have cH:OwnL 106 w1 w.heap.size v1 (o ++ [cy]):=OwnL.snoc (s:=cy) aN.out.symm aE ai.2 Gk eM;have ae:=(hB.alloc hB.size _).grown cU Gb ai.row_ge;go_ret;refine⟨v1,_,rfl,cH,by rw[List.length_append,aN.out];rfl,?_,ae⟩;rw[Zeq,aN.out,hI.out,Zad (by rw[ar.out];exact Nat.le_refl _)]):G:=h
theorem Eg{G:Prop}(h:G:=by
 have cH:OwnL 106 w1 w.heap.size v1 (o ++ [t%4294967296]):=OwnL.snoc (s:=t%4294967296) aN.out.symm aE ai.2 Gk (Nat.mod_lt _ Gj);have ae:=(hB.alloc hB.size _).grown cU Gb ai.row_ge
 go_roundw
 case rel =>
  refine⟨i+1,t/4294967296,by omega,by go_num,by go_num,_,cH,by rw[List.length_append,aN.out];rfl,by rw[hp.out];exact iP,?_,ae⟩;rw[Zeq,aN.out,fF.out,hp.out,Nat.mul_add,Za7];have h1:=hI.out;rw[hp.out]at h1
  have h2:pw i*(t%4294967296)+4294967296*pw i*(t/4294967296)=pw i*t:=by
   rw[Nat.mul_comm 4294967296 (pw i),Nat.mul_assoc,<- Nat.mul_add,Nat.mod_add_div]
  have h3:p*(pw i*x)=pw i*(p*x):=by rw[Nat.mul_left_comm]
  rw[h3,<- h1,Nat.add_assoc,h2,<- ht.out,Nat.mul_add];omega
 case measure=>simp[intOf];omega):G:=h
theorem Zs8(A:Option Addr)(n c s:Nat)(l:List Nat)(w:World)(h:Lim w A n c l)(hs:s<32)(hn9:n<=1000000) :
    Calls Tryz.prog 166 #[.slice A n c,.int .i64 s] w (λe w'=>∃ v o,e=.returned v/\OwnL 106 w' w.heap.size v o/\o.length=n+1/\val o=2^s*val l/\Below w.heap.size w w'):=by
 obtain⟨i0,hi,u,C,J⟩:=info_parts Zdj;have a2:=h.2.1;have O:=h.2.2.1;unfold maxLen at O
 have a3:∀ W:World,(Instr.makeSlice 37 (.int .i64 0) (.int .i64 ((n:Int)+1))).run Tryz.prog W=.ok (.slice (some ⟨W.heap.size,0,none⟩) 0 (n+1)) (W.alloc (.cells (Zz (Qa (n+1) 0)) 106)):=λW=>by
  have hr:=run_make (P:=Tryz.prog) W 37 106 i0 _ Tryz.underlying37 hi u .i64 .i64 0 ((n:Int)+1) Gk Gk (by rw[J];omega) Gk;rw[hr,C]
  have:madeCells (Value.int .u32 0).cells (((n:Int)+1).toNat*1)=Zz (Qa (n+1) 0):=by
   rw[show ((n:Int)+1).toNat*1=n+1 by omega];apply Array.toList_inj.1;rw[show (Value.int .u32 0).cells=#[.int .u32 0] from rfl,toList_madeCells_one];simp[Zz,limb]
  rw[this,show ((n:Int)+1).toNat=n+1 by omega];rfl
 have hO:OwnL 106 (w.alloc (.cells (Zz (Qa (n+1) 0)) 106)) w.heap.size (.slice (some ⟨w.heap.size,0,none⟩) 0 (n+1)) []:=
  ⟨⟨rfl,.inr ⟨w.heap.size,n+1,_,rfl,Qg _,heap_alloc_new _ _,Nat.zero_le _,by unfold maxLen;omega,by simp[Zz],by simp⟩⟩,Lt32.nil⟩
 have q3:((s:Int)/32)=0:=Gk;have q4:((s:Int)%32)=(s:Int):=Gk
 go_in;go_wp2_with fail
 go_loopw [20,6,5] (λiv cv ov wr=>∃ i cy:Nat,i<=n/\iv=.int .i64 i/\cv=.int .u64 cy/\LeftP w s l i cy ov wr) (λiv _ _ _=>n-(intOf iv).toNat)
 case atStart=>exact⟨0,0,Nat.zero_le _,rfl,rfl,[],hO,rfl,Qn Gk,by simp[val],(Ql _ _).alloc (Qg _) _⟩
 case round =>
  obtain⟨i,cy,a1,rfl,rfl,o,ai,aN,y,hI,hB⟩:=hrel;replace aN:=Zb aN;replace hI:=Zb hI;by_cases hi':i<n
  ·obtain⟨b,of,rfl,I⟩:=(h.below hB).at_ hi'
   have hx:=h.lt.get i;obtain⟨p,hp⟩:=Gz (2^s);have Y:p<=2147483648:=by rw[<- hp];exact Qv Gk (show s<=31 by omega)
   have a0:p*l[i]?.getD 0<=2147483648*4294967295:=Nat.mul_le_mul Y Gk
   have U:bits .or .u64 (cy:Int) (IntKind.u64.wrap (((l[i]?.getD 0:Nat):Int)*2^s))=((cy+p*l[i]?.getD 0:Nat):Int):=by
    have e1:(((l[i]?.getD 0:Nat):Int)*2^s)=((p*l[i]?.getD 0:Nat):Int):=by rw[<- hp];push_cast;rw[Int.mul_comm]
    have V:cy<18446744073709551616:=Gk;rw[e1,QC,show (((p*l[i]?.getD 0:Nat):Int)%18446744073709551616)=((p*l[i]?.getD 0:Nat):Int) by omega,u64_or_nat _ _ V Gk,<- hp,or_add y]
   rw[hp]at y;replace hp:=Zb hp;have fF:Hid (val (l.take (i+1))=val (l.take i)+pw i*l[i]?.getD 0):=Zac l i;obtain⟨x,f⟩:=Gz (l[i]?.getD 0);rw[f]at I hx a0 U fF;replace f:=Zb f;obtain⟨t,ht⟩:=Gz (cy+p*x)
   have iP:t/4294967296<p:=by
    rw[Qf Gk,<- ht];have:p*x+p<=p*4294967296:=by rw[<- Nat.mul_succ];exact Qd _ Gk
    omega
   rw[ht]at U;replace ht:=Zb ht;go_wp2_with (at_builtin;refine Zx _ rfl (.tmp 31) (.tmp 34) 37 rfl w.heap.size 106 i0 _ 1 4 Tryz.underlying37 hi u C J rfl Gk _ i (o.map limb) rfl (by have:=aN.out;subst this;exact ai.1.alloc _) _ _ 1 1 _ rfl (Zbx _ _ _) (by simp[Value.oneCell']) (by simp only[maxLen];omega) Gk Gb ?_;intro v1 w1 aE cU T);exact Eg
  obtain rfl:i=n:=Gk;have ar:=Zb h.len;have eM:cy<4294967296:=Qx y (show 2^s<=4294967296 from Nat.le_trans (Qv Gj (show s<=32 by omega)) Gj);have O:((cy:Int))%4294967296=(cy:Int):=Gk;clear h;go_wp2_with (at_builtin;refine Zx _ rfl (.tmp 39) (.tmp 42) 37 rfl w.heap.size 106 i0 _ 1 4 Tryz.underlying37 hi u C J rfl Gk _ i (o.map limb) rfl (by have:=aN.out;subst this;exact ai.1.alloc _) _ _ 1 1 _ rfl (Zbx _ _ _) (by simp[Value.oneCell']) (by simp only[maxLen];omega) Gk Gb ?_;intro v1 w1 aE cU T);exact Fw
theorem Zu1(A:Option Addr)(c:Nat)(fn:Value)(w:World) :
    Calls Tryz.prog 197 #[.slice A 0 c,fn] w λe w'=>e=.returned (.int .i64 (-1))/\w=w':=by
 go_in;go_wp2_with fail
 go_loop [8] (λv=>v=.int .i64 0) (λ_=>0)
 case atStart=>rfl
 case round =>
  subst hrel;go_wp2_with fail;go_ret;exact⟨rfl,rfl⟩
theorem Zot(A:Option Addr)(c:Nat)(fn:Value)(w:World) :
    Calls Tryz.prog 188 #[.slice A 0 c,fn] w λe w'=>e=.returned (.bool false)/\w=w':=by
 go_in;go_wp2_with (go_at_call 197;refine(Zu1 _ _ _ _).mono ?_;rintro e w' ⟨rfl,rfl⟩);go_ret;exact⟨rfl,rfl⟩
def RightP(w:World)(l:List Nat)(s:Nat)(e:Ending)(w':World):Prop:=
 ∃ A n c o b,e=.returned (.tuple #[.slice A n c,.bool b])/\Lim w' A n c o/\val o=val l/2^s/\Below w.heap.size w w'
theorem Zoz(A:Option Addr)(n c s:Nat)(l:List Nat)(w:World)(hl:Lim w A n c l)(hs:s<32)(hn9:n<=1000000) :
    Calls Tryz.prog 167 #[.slice A n c,.int .i64 s] w (RightP w l s):=by
 obtain⟨i0,hi,a5,a9,a8⟩:=info_parts Zdj;have b5:=Zgs (P:=Tryz.prog) 37 106 Tryz.underlying37 hi a5 a9 a8 (n:Int) n rfl Gk;have b8:=hl.2.1;have a7:=hl.2.2.1;unfold maxLen at a7;have q3:((s:Int)/32)=0:=Gk;have q4:((s:Int)%32)=(s:Int):=Gk;have h9:1<=9:=Gk;refine(callsIn_wide (n:=9)).1 ?_;refine callsIn_of_wp_marks Tryz.func167 rfl trivial ?_ rfl;simp only[Tryz.ntmps167,QR,QT,Qu,Nat.reduceAdd,Nat.reduceSub,QK,QL,QS,QM,QF,QU]
 gi_wp2_with (first|(refine⟨trivial,?_⟩;gi_at_call 188;refine(callsIn_wide.2 (Zot _ _ _ _)).mono ?_;rintro e w' ⟨rfl,rfl⟩)|(refine⟨trivial,?_⟩;gi_at_call 190;refine(callsIn_wide.2 (Zmy _ _ _ _)).mono ?_;rintro e w' ⟨rfl,rfl⟩))
 have bD:=Qw w 3 #[.int .i64 (s:Int)];have bO:=Qw (w.alloc (.cells #[.int .i64 (s:Int)] 3)) 106 (Zz (Qa n 0));have b6:=Qw ((w.alloc (.cells #[.int .i64 (s:Int)] 3)).alloc (.cells (Zz (Qa n 0)) 106)) 37 #[(.slice (some ⟨w.heap.size+1,0,none⟩) n n)];have b7:=Qw (((w.alloc (.cells #[.int .i64 (s:Int)] 3)).alloc (.cells (Zz (Qa n 0)) 106)).alloc (.cells #[(.slice (some ⟨w.heap.size+1,0,none⟩) n n)] 37)) 108 #[.int .u64 0];have bN:=Boxed.new ((((w.alloc (.cells #[.int .i64 (s:Int)] 3)).alloc (.cells (Zz (Qa n 0)) 106)).alloc (.cells #[(.slice (some ⟨w.heap.size+1,0,none⟩) n n)] 37)).alloc (.cells #[.int .u64 0] 108)) 37 (.slice A n c);simp only[QV]at bO b6 b7 bN;have C:Below w.heap.size w (((((w.alloc (.cells #[.int .i64 (s:Int)] 3)).alloc (.cells (Zz (Qa n 0)) 106)).alloc (.cells #[(.slice (some ⟨w.heap.size+1,0,none⟩) n n)] 37)).alloc (.cells #[.int .u64 0] 108)).alloc (.cells #[.slice A n c] 37)):=by go_grown
 have h0:DownI w.heap.size n (2^s) l (λr=>.int .u64 (r:Int)) 37 108 (.int .i64 (s:Int)) 3 [] (((((w.alloc (.cells #[.int .i64 (s:Int)] 3)).alloc (.cells (Zz (Qa n 0)) 106)).alloc (.cells #[(.slice (some ⟨w.heap.size+1,0,none⟩) n n)] 37)).alloc (.cells #[.int .u64 0] 108)).alloc (.cells #[.slice A n c] 37)):=
  ⟨Qa n 0,0,(((bD.alloc _).alloc _).alloc _).alloc _,((bO.alloc _).alloc _).alloc _,(b6.alloc _).alloc _,b7.alloc _,by simp,Lt32.replicate _,Qn Gk,λ_=>by rw[Qu,Nat.sub_zero,Qc Gh,Qc (by rw[hl.len];exact Qg _)];simp[val]⟩
 have hmx:=Gt
 refine wpIn_rangeFunc_ownF rfl h9 (gf:=198) (lb:=#[.pointer (some ⟨w.heap.size+1+1+1+1,0,none⟩)]) rfl trivial (enters_of Tryz.func198 Gi rfl)
  (Zje 8 Gk (w.heap.size+1+1+1+1) n c A l _ bN.cell (hl.below C)) KpD.trans (λW l o o' _ h hc _=>KpD.put W l o o' h hc) (Ql _ _) (λ_=>rfl)
  (λpre W=>DownI w.heap.size n (2^s) l (λr=>.int .u64 (r:Int)) 37 108 (.int .i64 (s:Int)) 3 pre W/\Below w.heap.size w W)
  (λ_ _ _=>False)
  (OwnFrom.and (Own.from (λs X Y row hs hg hr=>hs.own hg hr) _) (ownFrom_below (Qg _) Gg))
  (λcc=>Own.from (λs X Y row hs hg hr=>hs) _)
  ⟨h0,C⟩
  (λx=>{ tmps:=#[Value.slice A n c,Value.int IntKind.i64 (s:Int),undef,Value.pointer (some ⟨w.heap.size,0,none⟩),Value.slice none 0 0,Value.bool false,Value.int IntKind.i64 0,Value.bool false,Value.pointer (some ⟨w.heap.size+1+1,0,none⟩),Value.pointer (some ⟨w.heap.size+1+1+1,0,none⟩),.int .i64 (x.1:Int),limb (l[x.1]?.getD 0),Value.int IntKind.i64 (s:Int),Value.int IntKind.i64 0,Value.slice A n c,Value.int IntKind.i64 (n:Int),Value.int IntKind.i64 0,Value.slice A n c,Value.int IntKind.i64 0,Value.slice A 0 c,Value.bool false,Value.slice A n c,Value.int IntKind.i64 (n:Int),Value.int IntKind.i64 0,Value.int IntKind.i64 (n:Int),Value.slice (some ⟨w.heap.size+1,0,none⟩) n n,Value.slice A n c,Value.int IntKind.i64 0,Value.slice A n c,.func (.func 198) #[] #[.pointer (some ⟨w.heap.size+1+1+1+1,0,none⟩)],.int .i64 (x.1:Int),limb (l[x.1]?.getD 0),undef,undef,undef,undef,undef,undef,undef,undef,undef,undef,undef,undef,undef,undef,undef,undef,undef,undef,undef,undef,undef,undef,undef,undef,undef],defers:=[] }) ?assign ?body ?done ?stop
 case assign =>
  exact Ct
 case body =>
  rintro lp pre x W ⟨⟨o,r,k1,k2,k3,k4,k5,k6,k7,k8⟩,hB⟩ O;obtain⟨i,y⟩:=x;have k8:=Zb k8;have k5:=Zb k5;have c1:=k1.cell 0;have c3:=k3.cell 0;have c4:=k4.cell 0;have f4:=k4.frozen 0;have c2:=k2.cell i;rw[Zas o i (by rw[k5.out];exact y)]at c2;have f2:=k2.frozen i;simp at c1 c3 c4;have hx:=hl.lt.get i;obtain⟨p,hp⟩:=Gz (2^s);have J:0<p:=by rw[<- hp];exact Qn Gk
  have b0:p<=2147483648:=by rw[<- hp];exact Qv Gk (show s<=31 by omega)
  rw[hp]at k7;obtain⟨t,ht⟩:=Gz (r*4294967296+l[i]?.getD 0);have b2:t<9223372036854775808:=Gk
  have a0:t/p<4294967296:=by
   rw[Qf J];have:=Qd 4294967296 (show r+1<=p by omega);omega
  have b3:bits .or .u64 ((r:Int)*4294967296) ((l[i]?.getD 0:Nat):Int)=(t:Int):=by
   have h1:((r:Int)*4294967296)=((4294967296*r:Nat):Int):=Gk;rw[h1,u64_or_nat _ _ Gk Gk];have h2:=Qj (i:=32) (b:=l[i]?.getD 0) Gk r;rw[show (2:Nat)^32=4294967296 by rfl]at h2;rw[<- h2];omega
  have b9:r*4294967296<9223372036854775808:=Gk;have q5:((s:Int)).tmod 32=(s:Int):=by rw[Int.tmod_eq_emod_of_nonneg Gk];exact q4
  replace ht:=Zb ht;replace hp:=Zb hp;obtain⟨wo,I⟩:∃ wo:World,wo=W:=⟨_,rfl⟩;replace I:=Zb I
  gi_wp2
  generalize f:World.setCell W ⟨w.heap.size+1+1+1,0,none⟩ _=W1;have a1:W1.cell? ⟨w.heap.size,0,none⟩=some (.int .i64 (s:Int)):=by rw[<- f];exact(Qb _ _ _ _ Gf).trans c1
  have a2:W1.cell? ⟨w.heap.size+1,i,none⟩=some (limb (o[i]?.getD 0)):=by rw[<- f];exact(Qb _ _ _ _ Gf).trans c2
  have a3:W1.cell? ⟨w.heap.size+1+1,0,none⟩=some (.slice (some ⟨w.heap.size+1,0,none⟩) n n):=by rw[<- f];exact(Qb _ _ _ _ Gf).trans c3
  have a4:W1.cell? ⟨w.heap.size+1+1+1,0,none⟩=some (.int .u64 (t:Int)):=by rw[<- f];exact World.cell?_setCell_same _ _ _ c4
  have g2:W1.frozen? ⟨w.heap.size+1,i,none⟩=false:=by rw[<- f];exact(World.frozen?_setCell _ _ _ _).trans f2
  have g4:W1.frozen? ⟨w.heap.size+1+1+1,0,none⟩=false:=by rw[<- f];exact(World.frozen?_setCell _ _ _ _).trans f4
  replace f:=Zb f;refine Zbc [8] (λW'=>W'.cell? ⟨w.heap.size,0,none⟩=some (.int .i64 (s:Int))/\W'.cell? ⟨w.heap.size+1+1,0,none⟩=some (.slice (some ⟨w.heap.size+1,0,none⟩) n n)/\W'.cell? ⟨w.heap.size+1+1+1,0,none⟩=some (.int .u64 (t:Int))) hmx Gi ⟨a1,a3,a4⟩ (λ_=>?_);refine Zj9 8 [0,1,2,3,4,5,6,7] rfl Gi ⟨a1,a3,a4⟩ ?_
  iterate 8 (refine tkA ?_;try simp only[Qq,Zhb,Zgo,Zg6,Gr,Gq,Gp])
  refine tk0 ?_;refine Zv (i:=8) rfl Gi Gi (λK hK=>?_);go_simp;refine hK.out _ _ ?_;clear hK K
  try simp only[Qq,Zhb,Zgo,Zg6]
  refine wpAnyL_fin ?_;generalize u:World.drew (World.setCell W1 _ _)=W2;have b1:W2.cell? ⟨w.heap.size,0,none⟩=some (.int .i64 (s:Int)):=by rw[<- u];exact(Qb _ _ _ _ Gf).trans a1
  have b4:W2.cell? ⟨w.heap.size+1+1+1,0,none⟩=some (.int .u64 (t:Int)):=by rw[<- u];exact(Qb _ _ _ _ Gf).trans a4
  have h4:W2.frozen? ⟨w.heap.size+1+1+1,0,none⟩=false:=by rw[<- u];exact(World.frozen?_setCell _ _ _ _).trans g4
  replace u:=Zb u;clear a1 a2 a3 a4 g2 g4 c1 c2 c3 c4 f2 f4
  gi_wp2
  refine Zbc [6] (λW'=>W'.cell? ⟨w.heap.size,0,none⟩=some (.int .i64 (s:Int))/\W'.cell? ⟨w.heap.size+1+1+1,0,none⟩=some (.int .u64 (t:Int))) hmx Gi ⟨b1,b4⟩ (λ_=>?_);refine Zj9 6 [0,1,2,3,4,5] rfl Gi ⟨b1,b4⟩ ?_
  iterate 6 (refine tkA ?_;try simp only[Qq,Zhb,Zgo,Zg6,Gr,Gq,Gp])
  refine tk0 ?_;refine Zv (i:=6) rfl Gi Gi (λK hK=>?_);go_simp;refine hK.out _ _ ?_;clear hK K
  try simp only[Qq,Zhb,Zgo,Zg6]
  refine wpAnyL_fin ?_;generalize hW3:World.drew (World.setCell W2 _ _)=W3
  gi_wp2
  have hp:=hp.out;have ht:=ht.out;have z0:((2:Int)^s)=(p:Int):=by rw[<- hp];push_cast;rfl
  have z1:IntKind.u32.wrap ((t:Int)/2^s)=((t/p:Nat):Int):=by
   rw[z0,show (t:Int)/(p:Int)=((t/p:Nat):Int) from rfl];generalize t/p=z at *;simp only[IntKind.wrap_u32];omega
  have z2:bits BinOp.and IntKind.u64 (t:Int) (IntKind.u64.wrap (IntKind.u64.wrap (2^s)-1))=((t%p:Nat):Int):=by
   rw[z0,show IntKind.u64.wrap (IntKind.u64.wrap (p:Int)-1)=((p-1:Nat):Int) by simp only[QC];omega,u64_and_nat _ _ Gk Gk,<- hp,Nat.and_two_pow_sub_one_eq_mod]
  have f:=f.out;have u:=u.out;rw[z1]at u;rw[z2]at hW3;have hr:t%p<p:=QJ _ J;have he:t/p*p+t%p=r*4294967296+l[i]?.getD 0:=by rw[ht,Qi];exact Qs _ _
  generalize t/p=q at *;generalize t%p=r' at *;subst hp;subst f;subst u;subst hW3;refine⟨((KeepsOthers.setCell _ _ _).trans ((KeepsOthers.setCell _ _ _).trans (KeepsOthers.drew _))).trans ((KeepsOthers.setCell _ _ _).trans (KeepsOthers.drew _)),((KpD.set_ (w:=w) (o:=0) hl Gk Gk (.int .u64 (t:Int))).trans (KpD.set_ (w:=w) (o:=i) hl Gk Gk (limb q))).trans (KpD.set_ (w:=w) (o:=0) hl Gk Gk (.int .u64 (r':Int))),?_,?_⟩
  ·refine DownI.step (x:=⟨i,y⟩) (((((k1.far Gf _).far Gf _).drewN 1).far Gf _).drewN 1) ?_ (((((k3.far Gf _).far Gf _).drewN 1).far Gf _).drewN 1) (((((k4.set_ 0 (.int .u64 (t:Int))).far Gf _).drewN 1).set_ 0 (.int .u64 (r':Int))).drewN 1) k5.out k6 a0 hr hl.len O k8.out he
   have:=((((k2.far (p:=⟨w.heap.size+1+1+1,0,none⟩) Gf (.int .u64 (t:Int))).set_ i (limb q)).drewN 1).far (p:=⟨w.heap.size+1+1+1,0,none⟩) Gf (.int .u64 (r':Int))).drewN 1;rw[Zb2]at this;exact this
  exact Zf ((Zf ((hB.setCell (p:=⟨w.heap.size+1+1+1,0,none⟩) Gf _).setCell (p:=⟨w.heap.size+1,i,none⟩) Gf _) 1).setCell (p:=⟨w.heap.size+1+1+1,0,none⟩) Gf _) 1
 case done =>
  rintro D ys W hD rfl ⟨⟨o,r,k1,k2,k3,k4,k5,k6,k7,k8⟩,hB⟩ hK;have k8:=k8 (by rw[Zdn (Qg _)]);rw[Zdn (Qg _),Nat.sub_self,Qm,Qm]at k8;obtain⟨e1,e2⟩:=Zp5 (U:=val l) (V:=2^s) (q:=val o) (R:=r) Gk k7;have T:=Lim.of_blk k2 k6 (by rw[k5];unfold maxLen;omega);rw[k5]at T;replace k8:=Zb k8;replace k5:=Zb k5;replace e1:=Zb e1;clear e2;have c3:=k3.cell 0;have c4:=k4.cell 0;simp at c3 c4
  gi_wp2
  refine wpIn_wide.2 ?_
  go_quiet (fail)
  gi_wp2
  have dZ:(W.drewN nq).heap[D]?=some (.deferred (some [])):=hK;refine⟨by simp,.inl ⟨_,_,rfl,run_takeDeferred dZ,?_⟩⟩;have a6:=Zhj (T.drewN nq) (grownBy_putObj' (W.drewN nq) D (.deferred none)) (λr e=>by cases e;exact⟨_,dZ,rfl⟩);refine⟨.tuple #[.slice (some ⟨w.heap.size+1,0,none⟩) n n,.bool (decide ((0:Int)<r))],by simp[results,Tryz.f167,go_sem],⟨_,_,_,_,_,rfl,a6,e1.out,?_⟩⟩;exact IK
 case stop =>
  rintro D c pre W _ _ h _;exact h.elim
