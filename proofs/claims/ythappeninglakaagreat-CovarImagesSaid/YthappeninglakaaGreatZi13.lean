/- Package linear: Check, square. The reference of linear: -/
import Derived.Test.YthappeninglakaaGreatZi12
set_option maxRecDepth 100000
set_option maxHeartbeats 2000000
set_option linter.unusedSimpArgs false
set_option linter.unusedVariables false
namespace Go.Proofs.YthappeninglakaaGreat
open Go.RowKit
open List renaming getElem?_map→Qa,getElem?_eq_getElem→Qc,mem_of_getElem?→Qd,eq_nil_of_length_eq_zero→Qe,ext_getElem?→Qf,getElem?_set→Qg,getElem?_eq_none→Qh,set_append_left→Qi,getElem_of_mem→Qj,getElem?_range→Qk,map_set→Ql,all_eq_true→Qm
open Below renaming refl→Qb
open Option renaming getD_some→Qn,map_some→Qo
attribute [local go_sem] Zg
def n0R(rs:List RX):Nat:=(rs[0]?.map RX.n).getD 0
def Zhl(k:Nat)(r:RX):Bool:=decide (r.n=k) && Zey r.es
def Zh6(rs:List RX):Bool:=decide (12<rs.length) || rs.any RX.long
def Zg7(rs:List RX):Int:=if Zh6 rs=true then 4 else if n0R rs=0 then 8 else if rs.all (Zhl (n0R rs))=true then 0 else 8
def sqE(rs:List RX):Int:=if Zg7 rs=0 then (if rs.length=n0R rs then 0 else 8)else Zg7 rs
theorem Zpw{rs:List RX}(h:Zh6 rs=true):Zg7 rs=4:=by unfold Zg7;rw[Gx h]
theorem Zp2{rs:List RX}(h:Zh6 rs=false)(h0:n0R rs=0):Zg7 rs=8:=by unfold Zg7;rw[Gw (by simp[h]),Gx h0]
theorem Z10{rs:List RX}(h:Zh6 rs=false)(h0:n0R rs≠0){r:RX}(hr:r ∈ rs)(hb:Zhl (n0R rs) r=false):Zg7 rs=8:=by
 unfold Zg7;exact IS
theorem matE_ok{rs:List RX}(h:Zh6 rs=false)(h0:n0R rs≠0)(ha:rs.all (Zhl (n0R rs))=true):Zg7 rs=0:=by
 unfold Zg7;rw[Gw (by simp[h]),Gw h0,Gx ha]
theorem Z0x{rs:List RX}{r:RX}(h:rs[0]?=some r):n0R rs=r.n:=by unfold n0R;rw[h];rfl
theorem Fl{G:Prop}(h:G:=by
 clear h;go_in;go_wp2_with fail;refine(hC.out _ (by first|exact Below.refl _ _|exact Zf (Below.refl _ _) _)).mono ?_;rintro e w1 ⟨rfl,ab⟩;go_wp2_with fail;go_ret;exact⟨rfl,by first|exact ab|exact(Zf (Below.refl _ _) _).trans ab⟩):G:=h
theorem Fo{G:Prop}(h:G:=by
 go_wp2_with fail;go_ret;exact⟨rfl,by first|exact Below.refl _ _|exact Zf (Below.refl _ _) _⟩):G:=h
theorem Zwq(A:Option Addr)(n c:Nat)(rs:List RX)(w:World)(h:MXL w A n c rs)(E:Int)(hE:Zg7 rs=E) :
    Calls Tryz.prog 126 #[.slice A n c] w λe w'=>e=.returned (.int .i64 E)/\Below w.heap.size w w':=by
 have hl:=h.1;have a6:=h.2.1;have Y:=h.2.2.1;unfold maxLen at Y;replace hE:=Za hE;by_cases h12:12<n
 ·have t1:decide ((12:Int)<(n:Int))=true:=Gv Gk
  obtain rfl:E=4:=by rw[<- hE.out];exact Zpw (by unfold Zh6;rw[hl,Gv h12];rfl)
  go_in;exact Fo
 have t1:decide ((12:Int)<(n:Int))=false:=Gu Gk;obtain⟨x,hx⟩:=Gz (rs.any RX.long);have C:Zh6 rs=x:=by unfold Zh6;rw[hl,Gu h12,hx];rfl
 have hC:=Za (λW1 (hb:Below w.heap.size w W1)=>Zu9 A n c rs W1 (h.below hb) x hx);clear hx;replace C:=Za C;cases x
 case true =>
  obtain rfl:E=4:=by rw[<- hE.out];exact Zpw C.out
  exact Fl
 by_cases hn0:n=0
 ·subst hn0
  obtain rfl:E=8:=by
   rw[<- hE.out];have:rs=[]:=Qe hl;exact Zp2 C.out (by rw[this];rfl)
  exact Fl
 have t2:((n:Int) == 0)=false:=by simp;omega
 have a3:decide (n=0)=false:=by simpa using hn0
 obtain⟨g,o,r0,rfl,T,c0,V⟩:=h.at_ (k:=0) Gk;have U:=V.nlen;unfold maxLen at U;have f:=Z0x T;clear T V;rw[Nat.add_zero]at c0;have a5:=Zo c0;by_cases hz:r0.n=0
 ·obtain rfl:E=8:=by rw[<- hE.out];exact Zp2 C.out (by rw[f,hz])
  have t3:((r0.n:Int) == 0)=true:=by simp[hz]
  have a0:decide (r0.n=0)=true:=by simpa using hz
  replace h:=Za h;replace f:=Za f;replace hz:=Za hz;go_in;go_wp2_with fail;refine(hC.out _ (by first|exact Qb _ _|exact Zf (Qb _ _) _)).mono ?_;rintro e w1 ⟨rfl,ab⟩;have y:Below w.heap.size w w1:=by first|exact ab|exact(Zf (Qb _ _) _).trans ab
  have k0:=Zb y c0;clear c0;go_wp2_with fail;go_ret;exact⟨rfl,y⟩
 have t3:((r0.n:Int) == 0)=false:=by simpa using hz
 have a0:decide (r0.n=0)=false:=by simpa using hz
 replace h:=Za h;replace hl:=Za hl;replace f:=Za f;replace hz:=Za hz;go_in;go_wp2_with fail;refine(hC.out _ (by first|exact Qb _ _|exact Zf (Qb _ _) _)).mono ?_;rintro e w1 ⟨rfl,ab⟩;have y:Below w.heap.size w w1:=by first|exact ab|exact(Zf (Qb _ _) _).trans ab
 have k0:=Zb y c0;clear ab hC;go_wp2_with fail
 go_loopw [24] (λiv wr=>∃ i:Nat,i<=n/\iv=.int .i64 i/\Hid (∀ j e,j<i->rs[j]?=some e->Zhl (n0R rs) e=true)/\Below w.heap.size w wr) (λiv _=>n-(intOf iv).toNat)
 case atStart=>exact⟨0,Nat.zero_le _,rfl,Za (λj e hj=>by omega),(by first|exact y|exact Zf y _)⟩
 case round =>
  clear k0 y;obtain⟨i,a4,rfl,ay,u⟩:=hrel;have k0:=Zb u c0;clear c0;by_cases hin:i<n
  case neg =>
   obtain rfl:n=i:=Gk;have a1:decide ((n:Int)<(n:Int))=false:=Gh
   obtain rfl:E=0:=by
    rw[<- hE.out];refine matE_ok C.out (by rw[f.out];exact hz.out) ?_;exact EY
   go_wp2_with fail;go_ret;exact⟨rfl,u⟩
  have a1:decide ((i:Int)<(n:Int))=true:=Gv Gk;obtain⟨g',o',r,hA,he,c1,hL⟩:=(h.out.below u).at_ hin;cases hA;have a2:=hL.nlen;unfold maxLen at a2;have bad:Zhl (n0R rs) r=false->E=8:=λhf=>by rw[<- hE.out];exact Z10 C.out (by rw[f.out];exact hz.out) (Qd he) hf
  have good:Zhl (n0R rs) r=true->Hid (∀ j e,j<i+1->rs[j]?=some e->Zhl (n0R rs) e=true):=λhf=>Za (λj e' hj he'=>by
   rcases Nat.lt_or_ge j i with h'|h';exact ay.out j e' h' he';obtain rfl:j=i:=Gk;rw[he]at he';cases he';exact hf)
  replace bad:=Za bad;replace good:=Za good;replace he:=Za he;by_cases hq:r.n=r0.n
  case neg =>
   have t4:((r.n:Int) == (r0.n:Int))=false:=beq_eq_false_iff_ne.2 Gk;have t5:((r.n:Int) != (r0.n:Int))=true:=by rw[bne,t4];rfl
   have O:decide (r.n=r0.n)=false:=by simpa using hq
   obtain rfl:E=8:=bad.out (by unfold Zhl;rw[f.out,O];rfl);clear hL;go_wp2_with fail;go_ret;exact⟨rfl,by first|exact u|exact Zf u _⟩
  have t4:((r.n:Int) == (r0.n:Int))=true:=beq_iff_eq.2 Gk;have t5:((r.n:Int) != (r0.n:Int))=false:=by rw[bne,t4];rfl
  have O:decide (r.n=r0.n)=true:=by simpa using hq
  obtain⟨x,hx⟩:=Gz (Zey r.es);have hC:=Za (λW1 (hb:Below wr.heap.size wr W1)=>Zsd r.A r.n r.c r.es W1 (hL.below hb) x hx);replace hx:=Za hx;replace hq:=Za hq;clear hL;cases x
  ·obtain rfl:E=8:=bad.out (by unfold Zhl;rw[hx.out];simp)
   go_wp2_with fail;refine(hC.out _ (by first|exact Qb _ _|exact Zf (Qb _ _) _)).mono ?_;rintro e' w2 ⟨rfl,I⟩;go_wp2_with fail;go_ret;exact⟨rfl,(by first|exact Gs u I|exact(Zf u _).trans (I.mono u.size))⟩
  have J:=good.out (by unfold Zhl;rw[f.out,O,hx.out];rfl);go_wp2_with fail;refine(hC.out _ (by first|exact Qb _ _|exact Zf (Qb _ _) _)).mono ?_;rintro e' w2 ⟨rfl,I⟩;go_wp2_with fail
  go_roundw
  case rel=>exact⟨i+1,by omega,by go_num,J,(by first|exact Gs u I|exact(Zf u _).trans (I.mono u.size))⟩
  case measure=>simp[intOf];omega
theorem Ztk(A:Option Addr)(n c:Nat)(rs:List RX)(w:World)(h:MXL w A n c rs)(E:Int)(hE:sqE rs=E) :
    Calls Tryz.prog 80 #[.slice A n c] w λe w'=>e=.returned (.int .i64 E)/\Below w.heap.size w w':=by
 have hl:=h.1;have U:=h.2.1;have I:=h.2.2.1;unfold maxLen at I;obtain⟨F,hF⟩:=Gz (Zg7 rs);go_in;go_wp2_with fail;refine(Zwq A n c rs w h F hF).mono ?_;rintro e w1 ⟨rfl,f⟩;unfold sqE at hE;rw[hF]at hE;by_cases hF0:F=0
 case neg =>
  have t1:(F == 0)=false:=by simpa using hF0
  have T:decide (F=0)=false:=by simpa using hF0
  rw[Gw hF0]at hE;subst hE;replace hF:=Za hF;go_wp2_with fail;go_ret;exact⟨rfl,f⟩
 subst hF0;rw[Gx rfl]at hE
 have O:0<n:=by
  rcases Nat.eq_zero_or_pos n with h0|h0
  ·exfalso
   have:rs=[]:=Qe Gk;subst this;exact absurd hF Gj
  exact h0
 obtain⟨g,o,r0,rfl,u,c0,C⟩:=h.at_ (k:=0) O;have y:=C.nlen;unfold maxLen at y;rw[Z0x u,hl]at hE;rw[Nat.add_zero]at c0;replace c0:=Zb f c0;replace u:=Za u;replace hF:=Za hF;clear C h;by_cases hq:n=r0.n
 ·have t2:((n:Int) == (r0.n:Int))=true:=beq_iff_eq.2 Gk
  have t5:((n:Int) != (r0.n:Int))=false:=by rw[bne,t2];rfl
  have J:decide (n=r0.n)=true:=by simpa using hq
  rw[Gx hq]at hE;subst hE;replace hq:=Za hq;go_wp2_with fail;go_ret;exact⟨rfl,f⟩
 have t2:((n:Int) == (r0.n:Int))=false:=beq_eq_false_iff_ne.2 Gk;have t5:((n:Int) != (r0.n:Int))=true:=by rw[bne,t2];rfl
 have J:decide (n=r0.n)=false:=by simpa using hq
 rw[Gw hq]at hE;subst hE;replace hq:=Za hq;go_wp2_with fail;go_ret;exact⟨rfl,f⟩
theorem Zjg{rs:List RX}(h:Zg7 rs=0):0<rs.length/\rs.length<=12/\0<n0R rs/\n0R rs<=12/\∀ r ∈ rs,r.n=n0R rs/\Zey r.es=true:=by
 unfold Zg7 at h
 split at h
 exact absurd h Gj;rename_i h1
 split at h
 exact absurd h Gj;rename_i h2
 split at h
 ·rename_i h3
  rw[Qm]at h3
  have hf:∀ r ∈ rs,r.n=n0R rs/\Zey r.es=true:=λr hr=>by
   have:=h3 r hr;unfold Zhl at this;simpa using this
  unfold Zh6 at h1;simp only[Bool.or_eq_true,decide_eq_true_eq,not_or,Nat.not_lt,Bool.not_eq_true,List.any_eq_false]at h1;have f:rs ≠ []:=λe=>h2 (by rw[e];rfl);obtain⟨r,hr⟩:=List.exists_mem_of_ne_nil rs f;have h4:¬ 12<r.n:=by have:=h1.2 r hr;unfold RX.long at this;simpa using this
  have h5:=hf r hr;exact⟨List.length_pos_iff.2 f,h1.1,by omega,by omega,hf⟩
 exact absurd h Gj
theorem Z0o{es:List FX}(h:Zey es=true):∀ e ∈ es,e.ok=true:=λe he=>by
 unfold Zey at h;rw[Qm]at h;have:=h e he;unfold FX.fine at this;rw[Bool.and_eq_true]at this;exact this.2
section
variable{w:World}{A:Option Addr}{n c:Nat}{rs:List RX}
theorem MXL.good(h:MXL w A n c rs)(hE:Zg7 rs=0):MFL w A n c (qM rs):=h.mfl λr hr=>Z0o ((Zjg hE).2.2.2.2 r hr).2
theorem qM_row(h:MXL w A n c rs)(hE:Zg7 rs=0)(i:Nat)(hi:i<n):((qM rs)[i]?.getD []).length=n0R rs:=by
 unfold qM;have he:=Qc (l:=rs) (i:=i) (by rw[h.1];exact hi);rw[Qa,he];simp only[Qo,Qn,List.length_map];have hm:=List.getElem_mem (l:=rs) (n:=i) (by rw[h.1];exact hi);rw[(h.2.2.2.1 _ hm).1,((Zjg hE).2.2.2.2 _ hm).1]
end
theorem Zzf{rs:List RX}(h:sqE rs=0):Zg7 rs=0/\rs.length=n0R rs:=by
 unfold sqE at h
 split at h
 ·rename_i h1
  split at h
  exact⟨h1,by assumption⟩;exact absurd h Gj
 rename_i h1;exact absurd h h1
structure RZ where
 g:Nat
 q:List Int
def RZ.rs(r:RZ):RS:=⟨some ⟨r.g,0,none⟩,r.q.length,r.q.length⟩
def MatZ(tS tF:TypeId)(w:World)(go:Nat)(L:List RZ):Prop:=
 (∃ zs,Blk w go tS (Z5 (L.map RZ.rs++zs)))/\(∀ r ∈ L,POwn tF w r.g r.q/\r.q.length<=maxLen)/\(go::L.map RZ.g).Nodup
section
variable{tS tF:TypeId}{w w':World}{go:Nat}{L:List RZ}
theorem MatZ.below(h:MatZ tS tF w go L)(hb:Below w.heap.size w w'):MatZ tS tF w' go L:=by
 exact IU
theorem MatZ.cell(h:MatZ tS tF w go L){i:Nat}{r:RZ}(hr:L[i]?=some r):w.cell? ⟨go,i,none⟩=some (.slice (some ⟨r.g,0,none⟩) r.q.length r.q.length)/\w.frozen? ⟨go,i,none⟩=false:=by
 exact FW
theorem MatZ.row(h:MatZ tS tF w go L){i:Nat}{r:RZ}(hr:L[i]?=some r):POwn tF w r.g r.q/\r.q.length<=maxLen:=h.2.1 r (Qd hr)
theorem MatZ.ne(h:MatZ tS tF w go L){i:Nat}{r:RZ}(hr:L[i]?=some r):go≠r.g:=λe=>by
 exact IK
theorem MatZ.ne2(h:MatZ tS tF w go L){i j:Nat}{r s:RZ}(hr:L[i]?=some r)(hs:L[j]?=some s)(aU:i≠j):r.g≠s.g:=λe=>by
 have hn:=(List.nodup_cons.1 h.2.2).2;have h1:(L.map RZ.g)[i]?=some r.g:=by rw[Qa,hr];rfl
 have h2:(L.map RZ.g)[j]?=some r.g:=by rw[Qa,hs,e];rfl
 exact IZ
theorem MatZ.boxes(h:MatZ tS tF w go L):∀ k,(k=go \/ k ∈ L.map RZ.g)->∃ t cs,Blk w k t cs/\NoLimb cs:=by
 exact FA
theorem MatZ.set_(h:MatZ tS tF w go L){i:Nat}{r:RZ}(hr:L[i]?=some r){k:Nat}(hk:k<r.q.length){na:Bool}{A:Option Addr}{n c:Nat}{x:Int}(hf:Wd w na A n c x) :
    MatZ tS tF ((w.setCell ⟨r.g,k*2,none⟩ (.bool na)).setCell ⟨r.g,k*2+1,none⟩ (.slice A n c)) go (L.set i ⟨r.g,r.q.set k x⟩):=by
 have u:=h.ne hr;have y:=λ{j:Nat} {s:RZ} (hs:L[j]?=some s) (aU:j≠i)=>h.ne2 hs hr aU;have o:=h.row hr;have hi:=(List.getElem?_eq_some_iff.1 hr).1;obtain⟨⟨zs,h1⟩,h2,h3⟩:=h;refine⟨⟨zs,?_⟩,λs hs=>?_,?_⟩
 ·have e:(L.set i ⟨r.g,r.q.set k x⟩).map RZ.rs=L.map RZ.rs:=by
    rw[Ql];apply Qf;intro j;rw[Qg];by_cases aU:i=j
    ·subst aU
     rw[Gx rfl,Gx (by simpa using hi),Qa,hr];simp[RZ.rs]
    rw[Gw aU]
  rw[e];exact(h1.far u _).far u _
 ·obtain⟨j,hj,C⟩:=Qj hs
  have f:(L.set i ⟨r.g,r.q.set k x⟩)[j]?=some s:=by rw[Qc hj,C]
  rw[Qg]at f;by_cases aU:i=j
  ·subst aU
   rw[Gx rfl,Gx hi]at f;cases f;exact⟨o.1.set_ hk hf,by simpa using o.2⟩
  rw[Gw aU]at f;have:=h2 s (Qd f);exact⟨this.1.other o.1 (y f (Ne.symm aU)) _ _ _ _ _,this.2⟩
 have e:(L.set i ⟨r.g,r.q.set k x⟩).map RZ.g=L.map RZ.g:=by
   exact FM
 rw[e];exact h3
theorem MatZ.swap(h:MatZ tS tF w go L){i j:Nat}{r s:RZ}(hr:L[i]?=some r)(hs:L[j]?=some s) :
    MatZ tS tF ((w.setCell ⟨go,i,none⟩ (.slice (some ⟨s.g,0,none⟩) s.q.length s.q.length)).setCell ⟨go,j,none⟩ (.slice (some ⟨r.g,0,none⟩) r.q.length r.q.length)) go (Zaj L i j):=by
 have hi:=(List.getElem?_eq_some_iff.1 hr).1;have hj:=(List.getElem?_eq_some_iff.1 hs).1;have y:=λ{j:Nat} {s:RZ} (hs:L[j]?=some s)=>h.ne hs;obtain⟨⟨zs,h1⟩,h2,h3⟩:=h;have o:=h1.set_ i (.slice (some ⟨s.g,0,none⟩) s.q.length s.q.length);have J:NoLimb ((Z5 (L.map RZ.rs++zs)).setIfInBounds i (.slice (some ⟨s.g,0,none⟩) s.q.length s.q.length)):=Zgr (Zba _) i (λx=>by simp);have O:=o.set_ j (.slice (some ⟨r.g,0,none⟩) r.q.length r.q.length)
 have hk:∀ (A:Option Addr) (n c:Nat) (l:List Nat),Lim w A n c l->Lim ((w.setCell ⟨go,i,none⟩ (.slice (some ⟨s.g,0,none⟩) s.q.length s.q.length)).setCell ⟨go,j,none⟩ (.slice (some ⟨r.g,0,none⟩) r.q.length r.q.length)) A n c l:=
  λA n c l hl=>(hl.set_box h1 (Zba _) _ _).set_box o J _ _
 refine⟨⟨zs,?_⟩,λx hx=>?_,?_⟩
 ·have e:Z5 ((Zaj L i j).map RZ.rs++zs)=((Z5 (L.map RZ.rs++zs)).setIfInBounds i (.slice (some ⟨s.g,0,none⟩) s.q.length s.q.length)).setIfInBounds j (.slice (some ⟨r.g,0,none⟩) r.q.length r.q.length):=by
    have e1:=Zdr (es:=L.map RZ.rs++zs) (i:=i) s.rs;have e2:=Zdr (es:=(L.map RZ.rs++zs).set i s.rs) (i:=j) r.rs;simp only[RZ.rs]at e1 e2;rw[e1,e2,Z1t hr hs];congr 1;rw[Ql,Ql,Qi _ _ (by simpa using hi),Qi _ _ (by simpa using hj)];rfl
  rw[e];exact O
 ·have f:=Zjc L i j x hx
  obtain⟨es,q1,q2,q3⟩:=(h2 x f).1;obtain⟨k,I,C⟩:=Qj f;have u:x.g≠go:=Ne.symm (y (j:=k) (s:=x) (by rw[Qc I,C]));exact⟨⟨es,(q1.far u _).far u _,λe he=>⟨hk _ _ _ _ (q2 e he).1,(q2 e he).2⟩,q3⟩,(h2 x f).2⟩
 rw[List.nodup_cons]at h3 ⊢;rw[Zlj];refine⟨λhm=>h3.1 (Zjc _ _ _ _ hm),Zup h3.2 (by simpa using hi) (by simpa using hj)⟩
theorem MatZ.keptG{G:Nat->Prop}(h:MatZ tS tF w go L)(hk:Kept G w w')(hg:¬ G go)(hgs:∀ r ∈ L,¬ G r.g)(hG:∀ k,G k->∃ t cs,Blk w k t cs/\NoLimb cs):MatZ tS tF w' go L:=by
 obtain⟨⟨zs,h1⟩,h2,h3⟩:=h;refine⟨⟨zs,hk.blk h1 hg⟩,λr hr=>⟨?_,(h2 r hr).2⟩,h3⟩;obtain⟨es,q1,q2,q3⟩:=(h2 r hr).1;exact⟨es,hk.blk q1 (hgs r hr),λe he=>⟨hk.lim (q2 e he).1 hG,(q2 e he).2⟩,q3⟩
end
def Za2(L:List RZ)(i:Nat):List Int:=(L[i]?.map RZ.q).getD []
theorem Zhz{L:List RZ}{i:Nat}{r:RZ}(h:L[i]?=some r):Za2 L i=r.q:=by unfold Za2;rw[h];rfl
theorem Zkq(L:List RZ)(i j:Nat):Zah (L.map RZ.q) i j=(Za2 L i)[j]?.getD 0:=by unfold Zah Za2;rw[Qa]
theorem Zk3(L:List RZ)(i:Nat):Za2 L i=(L.map RZ.q)[i]?.getD []:=by unfold Za2;rw[Qa]
theorem Zyd{L:List RZ}{i j:Nat}{r:RZ}(hi:i<L.length):Za2 (L.set i r) j=if j=i then r.q else Za2 L j:=by
 unfold Za2;exact Ic
theorem Z1w{L:List RZ}{R:List (List Int)}(hl:L.length=R.length)(h:∀ i,i<R.length->Za2 L i=R[i]?.getD []):L.map RZ.q=R:=by
 apply Qf;intro i;rw[Qa];by_cases hi:i<R.length
 ·have:=h i hi
  unfold Za2 at this;exact FC
 rw[Qh Gk,Qh Gk];rfl
theorem Zuy{R:List (List Int)}{r col i:Nat}{last:Int}(hi:i<R.length):(Zdq R r col last)[i]?.getD []=if i<=r then R[i]?.getD []else Zsm (R[r]?.getD []) (R[i]?.getD []) col (Zah R r col) last:=by
 unfold Zdq;rw[Qa,Qk hi];rfl
theorem rowZ_eq{p row q:List Int}{col:Nat}{piv last:Int}(hl:q.length=row.length)(h:∀ t,q[t]?.getD 0=if t<row.length then Int.fdiv (row[t]?.getD 0*piv-row[col]?.getD 0*p[t]?.getD 0) last else row[t]?.getD 0):q=Zsm p row col piv last:=by
 apply Qf;intro t;unfold Zsm;rw[Qa];have:=h t;by_cases ht:t<row.length
 ·rw[Qk ht]
  rw[Qc (show t<q.length by omega)]at this ⊢;simp only[Qo,Qn]at this ⊢;rw[this,Gx ht]
 exact II
theorem Z0g{row q:List Int}{k:Nat}{x:Int}{f:Nat->Int}(hl:q.length=row.length)(hkl:k<row.length)(hx:x=f k)(h:∀ t,q[t]?.getD 0=if t<k then f t else row[t]?.getD 0) :
    ∀ t,(q.set k x)[t]?.getD 0=if t<k+1 then f t else row[t]?.getD 0:=by
 intro t;rw[Qg];by_cases ht:k=t
 ·subst ht
  rw[Gx rfl,Gx Gk,Gx Gk,hx];rfl
 rw[Gw ht,h t];by_cases h1:t<k;rw[Gx h1,Gx Gk];rw[Gw h1,Gw Gk]
theorem Cy{G:Prop}(h:G:=by
 exact⟨cD,_,_,_,_,rfl,st.1 _ _ _ _ _ eB.out⟩):G:=h
theorem Zir(na nb:Bool)(A B:Option Addr)(n c m d:Nat)(a b:Int)(w:World)(ha:Wd w na A n c a)(hb:Wd w nb B m d b)(hs:(a*b).natAbs<pw 4096) :
    Calls Tryz.prog 139 #[.agg #[.bool na,.slice A n c],.agg #[.bool nb,.slice B m d]] w (NumW w (a*b)):=by
 obtain⟨W0,u,f,⟨q0,q1,q2⟩,s0⟩:=Zb0 w 39 #[.bool na,.slice A n c] 39 #[.bool nb,.slice B m d] 39 #[.bool false,.slice none 0 0];have hA:=ha.below f;have hD:=hb.below f;have hC:=Za (Zjh na nb A B n c m d a b W0 hA hD);clear ha hb hA hD;obtain⟨a0,a1,-⟩:=q0.two;obtain⟨b0,b1,-⟩:=q1.two;replace q2:=Za q2;replace hs:=Za hs;clear q0 q1;go_in;go_wp2_with fail;refine hC.out.mono ?_;rintro e w1 ⟨h,n2,A2,k2,c2,code,rfl,hR⟩;have hN:=hR.small hs.out;have o:=Gs f h;have s1:=h.size;have q3:=Zc h q2.out;clear h a0 a1 b0 b1 u hR hC q2;obtain⟨V,hV,y,qv,kW,kB,sV⟩:=Zn 39 #[.bool n2,.slice A2 k2 c2] o o.size;have q4:=kB _ _ _ q3;have eB:=Za (kW _ _ _ _ _ hN);clear kW kB hN;obtain⟨v0,v1,v2,v3⟩:=qv.two;obtain⟨r0,r1,r2,r3⟩:=q4.two;go_wp2_with fail;obtain⟨X,hX,cD,q5,st⟩:=Za0 n2 A2 k2 c2 y Gk q4;(try rw[hX]);obtain⟨y0,y1,-⟩:=q5.two;refine bodyPost_ret (v:=.agg #[.bool n2,.slice A2 k2 c2]) (by simp[results,Tryz.results139,go_sem,y0,y1]) rfl ?_;exact Cy
theorem lsub_ok(na nb:Bool)(A B:Option Addr)(n c m d:Nat)(a b:Int)(w:World)(ha:Wd w na A n c a)(hb:Wd w nb B m d b)(hs:(a-b).natAbs<pw 4096) :
    Calls Tryz.prog 176 #[.agg #[.bool na,.slice A n c],.agg #[.bool nb,.slice B m d]] w (NumW w (a-b)):=by
 obtain⟨W0,u,f,⟨q0,q1,q2⟩,s0⟩:=Zb0 w 39 #[.bool na,.slice A n c] 39 #[.bool nb,.slice B m d] 39 #[.bool false,.slice none 0 0];have hA:=ha.below f;have hD:=hb.below f;have hC:=Za (Zvn na nb A B n c m d a b W0 hA hD);clear ha hb hA hD;obtain⟨a0,a1,-⟩:=q0.two;obtain⟨b0,b1,-⟩:=q1.two;replace q2:=Za q2;replace hs:=Za hs;clear q0 q1;go_in;go_wp2_with fail;refine hC.out.mono ?_;rintro e w1 ⟨h,n2,A2,k2,c2,code,rfl,hR⟩;have hN:=hR.small hs.out;have o:=Gs f h;have s1:=h.size;have q3:=Zc h q2.out;clear h a0 a1 b0 b1 u hR hC q2;obtain⟨V,hV,y,qv,kW,kB,sV⟩:=Zn 39 #[.bool n2,.slice A2 k2 c2] o o.size;have q4:=kB _ _ _ q3;have eB:=Za (kW _ _ _ _ _ hN);clear kW kB hN;obtain⟨v0,v1,v2,v3⟩:=qv.two;obtain⟨r0,r1,r2,r3⟩:=q4.two;go_wp2_with fail;obtain⟨X,hX,cD,q5,st⟩:=Za0 n2 A2 k2 c2 y Gk q4;(try rw[hX]);obtain⟨y0,y1,-⟩:=q5.two;refine bodyPost_ret (v:=.agg #[.bool n2,.slice A2 k2 c2]) (by simp[results,Tryz.results176,go_sem,y0,y1]) rfl ?_;exact Cy
theorem Zqu(na nb:Bool)(A B:Option Addr)(n c m d:Nat)(a b:Int)(w:World)(ha:Wd w na A n c a)(hb:Wd w nb B m d b)(h0:b≠0) :
    Calls Tryz.prog 173 #[.agg #[.bool na,.slice A n c],.agg #[.bool nb,.slice B m d]] w (NumW w (Int.fdiv a b)):=by
 obtain⟨W0,C,h,⟨q0,q1,q2⟩,s0⟩:=Zb0 w 39 #[.bool na,.slice A n c] 39 #[.bool nb,.slice B m d] 39 #[.bool false,.slice none 0 0];have hA:=ha.below h;have hD:=hb.below h;have hC:=Za (Zgc na nb A B n c m d a b W0 hA hD h0);clear ha hb hA hD;obtain⟨a0,a1,-⟩:=q0.two;obtain⟨b0,b1,-⟩:=q1.two;replace q2:=Za q2;replace h0:=Za h0;clear q0 q1;go_in;go_wp2_with fail;refine hC.out.mono ?_;rintro e w1 ⟨o,n2,A2,k2,c2,n3,A3,k3,c3,rfl,hN,-⟩;have u:=Gs h o;have s1:=o.size;have q3:=Zc o q2.out;clear o a0 a1 b0 b1 C hC q2;obtain⟨V,hV,I,qv,kW,kB,sV⟩:=Zn 39 #[.bool n2,.slice A2 k2 c2] u u.size;have q4:=kB _ _ _ q3;have eB:=kW _ _ _ _ _ hN;clear kW kB hN;obtain⟨V2,f,y,J,kW,kB,O⟩:=Zn 39 #[.bool n3,.slice A3 k3 c3] I Gk;replace q4:=kB _ _ _ q4;replace qv:=kB _ _ _ qv;replace eB:=Za (kW _ _ _ _ _ eB);clear kW kB;obtain⟨v0,v1,v2,v3⟩:=qv.two;obtain⟨r0,r1,r2,r3⟩:=q4.two;rw[<- hV]at f;rw[<- f]at v0 v1 v2 v3 r0 r1 r2 r3;replace f:=Za f;clear hV;go_wp2_with fail;(try rw[f.out]);obtain⟨X,hX,cD,q5,st⟩:=Za0 n2 A2 k2 c2 y Gk q4;(try rw[hX]);obtain⟨y0,y1,-⟩:=q5.two;refine bodyPost_ret (v:=.agg #[.bool n2,.slice A2 k2 c2]) (by simp[results,Tryz.results173,go_sem,y0,y1]) rfl ?_;exact Cy
theorem Zys(neg:Bool)(A:Option Addr)(n c:Nat)(w:World)(hn:n<=1000000000)(b:Bool)(hb:((n:Int) == 0)=b) :
    Calls Tryz.prog 174 #[.agg #[.bool neg,.slice A n c]] w λe w'=>e=.returned (.bool b)/\Below w.heap.size w w':=by
 go_in;go_wp2_with fail;go_ret;exact⟨rfl,by go_grown⟩
