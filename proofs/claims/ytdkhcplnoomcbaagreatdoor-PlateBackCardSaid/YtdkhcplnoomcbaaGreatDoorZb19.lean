/- Rows and matrices as they come in, copied by Twin; the law -/
import Derived.Deep.LoopGhost
import Derived.Test.YtdkhcplnoomcbaaGreatDoorZb18
set_option maxRecDepth 100000
set_option maxHeartbeats 16000000
set_option linter.unusedSimpArgs false
set_option linter.unusedVariables false
namespace Go.Proofs.YtdkhcplnoomcbaaGreatDoor
open Go.RowKit
open Nat renaming add_assoc→Qa,le_refl→Qe,le_succ→Qi,lt_of_lt_of_le→Qj,le_trans→Qn
open Act renaming put→Qb
open List renaming getElem?_eq_getElem→Qc,range→Qd,length_map→Qf,map_cons→Qh,map_nil→Qk,mem_of_getElem?→Ql,eq_nil_of_length_eq_zero→Qm,not_mem_nil→Qo,getElem?_eq_none→Qp,mem_cons→Qr,length_take_le→Qs,getElem?_map→Qu,getElem_mem→Qv
open Below renaming refl→Qg
open Rat renaming mul_nonneg→Qq,zero_add→Qt
attribute [local go_sem] Zf
section
variable{t tS:TypeId}{w w':World}{base:Nat}{v:Value}{xs:List FX}
end
section
variable{P:Program}(w:World)
end
theorem df_fr{w:World}{q:Rat}{A:Option Addr}{n c:Nat}{B:Option Addr}{m d:Nat}(h1:Lim w A n c (dfQ q).la)(h2:Lim w B m d (dfQ q).lb)(hs:q.num.natAbs<pw 4096/\q.den<pw 4096):Fr w (dfQ q).na A n c (dfQ q).nb B m d q:=by
 have a1:=(Zo _ 4096).2 hs.1;have a2:=(Zo _ 4096).2 hs.2;have l1:=h1.len;have l2:=h2.len;have e1:(dfQ q).la=digits q.num.natAbs:=rfl;have e2:(dfQ q).lb=digits q.den:=rfl;rw[e1]at h1 l1;rw[e2]at h2 l2;refine⟨⟨rfl,by omega,h1⟩,⟨?_,by omega,by rw[Int.natAbs_natCast];exact h2⟩⟩;show false=decide _;symm;exact Gu Gk
theorem XL.fl{w:World}{A:Option Addr}{n c:Nat}{qs:List Rat}(h:XL w A n c (qs.map dfQ))(hs:∀ q ∈ qs,q.num.natAbs<pw 4096/\q.den<pw 4096):FL w A n c qs:=by
 obtain⟨h1,h2,h3,h4⟩:=h;rw[Qf]at h1;rcases Nat.eq_zero_or_pos n with h0|h0
 ·subst h0
  obtain rfl:qs=[]:=Qm h1;exact⟨[],rfl,h2,h3,λe he=>(by cases he),rfl,λhn=>absurd hn (Nat.lt_irrefl _)⟩
 obtain⟨g,o,A0,n0,c0,B0,m0,d0,rfl,-⟩:=h4 0 _ (Qc (by rw[Qf];omega))
 obtain⟨fs,f1,f2⟩:=Zsn (λk (e:FE)=>At4 w g (o+k*4) e.na e.A e.n e.c e.nb e.B e.m e.d/\Fr w e.na e.A e.n e.c e.nb e.B e.m e.d e.q/\qs[k]?=some e.q) n (λk hk=>by
  have hq:=Qc (l:=qs) (i:=k) Gk;obtain⟨g',o',A1,n1,c1,B1,m1,d1,e1,h5,h6,h7⟩:=h4 k (dfQ qs[k]) (by rw[Qu,hq];rfl);cases e1;exact⟨⟨_,A1,n1,c1,_,B1,m1,d1,qs[k]⟩,h5,df_fr h6 h7 (hs _ (Qv _)),hq⟩)
 refine⟨fs,f1,h2,h3,λe he=>?_,?_,λ_=>⟨g,o,rfl,λk e he=>(f2 k e he).1⟩⟩
 ·obtain⟨k,hk,rfl⟩:=List.getElem_of_mem he
  exact(f2 k _ (Qc hk)).2.1
 apply List.ext_getElem?;intro k;rw[Qu];by_cases hk:k<n
 ·have hf:=Qc (l:=fs) (i:=k) Gk
  rw[hf,(f2 k _ hf).2.2];rfl
 rw[Qp (l:=fs) Gk,Qp (l:=qs) Gk];rfl
theorem Zfu{a i j:Nat}(h:a<=pw i)(hij:i<j):a<pw j:=Nat.lt_of_le_of_lt h (Zjr hij)
theorem Zkr{ps:List PE}{T:Nat}{rs:List RI}(h:LikeP ps T rs)(hk:ps.all Zc4=true)(h0:0<ps.length)(hn:ps.length<=200)(hT0:0<T)(hT:T<=10){f:PE->Int}(hf:∀ p,Zc4 p=true->(f p).natAbs<=1099511627776) :
    (Zas T (Zeh (psR ps T) (wtL ps) ps.length)=0/\∀ (w:World) (A B C:Option Addr) (n c m d k e:Nat),MIL w A n c rs->LimI w B m d (ps.map f)->LimI w C k e (wtL ps) ->
     Calls Tryz.prog 60 #[.slice A n c,.slice B m d,.slice C k e] w λe w'=>Below w.heap.size w w'/\∃ (A0:Option Addr) (n0 c0:Nat) (sn:Bool) (sA:Option Addr) (sk sc:Nat) (sm:Bool) (sB:Option Addr) (sj sd:Nat),e=.returned (.tuple #[.slice A0 n0 c0,.agg #[.bool sn,.slice sA sk sc,.bool sm,.slice sB sj sd],.int .i64 22])) \/
    (Zas T (Zeh (psR ps T) (wtL ps) ps.length)≠0/\∃ x:Nat->Rat,Zdw (psR ps T) (ps.map f) (wtL ps) x ps.length T/\(∀ k,k<T->SmN 51 51 (x k))/\SmN 112 101 (Zcr (psR ps T) (ps.map f) (wtL ps) x T ps.length) /\
     ∀ (w:World) (A B C:Option Addr) (n c m d k e:Nat),MIL w A n c rs->LimI w B m d (ps.map f)->LimI w C k e (wtL ps) ->
     Calls Tryz.prog 60 #[.slice A n c,.slice B m d,.slice C k e] w λe w'=>Below w.heap.size w w'/\∃ (A0:Option Addr) (c0:Nat) (sn:Bool) (sA:Option Addr) (sk sc:Nat) (sm:Bool) (sB:Option Addr) (sj sd:Nat),e=.returned (.tuple #[.slice A0 T c0,.agg #[.bool sn,.slice sA sk sc,.bool sm,.slice sB sj sd],.int .i64 0]) /\
      FL w' A0 T c0 ((Qd T).map x)/\Fr w' sn sA sk sc sm sB sj sd (Zcr (psR ps T) (ps.map f) (wtL ps) x T ps.length)):=by
 have J:=h.sys hk h0 hn hT0 hT hf;obtain⟨b1,b2,b3⟩:=Zoo J;obtain⟨E,ds,d,-,a1,o⟩:=Zud rs (ps.map f) (wtL ps);have hE:=a1 J;rw[h.n0 h0,h.len,h.nrm]at hE;rcases hE with ⟨u,rfl,rfl⟩|⟨u,rfl,x,rfl,rfl,hN,-,D,I,hD,O⟩
 ·refine .inl ⟨u,λw A B C n c m d0 k e hm hr hw=>?_⟩
  refine(o w A B C n c m d0 k e hm hr hw).mono ?_;rintro e w' ⟨A0,n0,c0,A1,n1,c1,B1,m1,d1,rfl,hb,-⟩;exact⟨hb,_,_,_,_,_,_,_,_,_,_,_,rfl⟩
 have h5:5*T<=50:=Gk
 have hxs:∀ k,k<T->SmN 51 51 (x k):=λk hk=>by
  obtain⟨c1,c2⟩:=(O k hk).small I;exact⟨Zfu c1 Gk,Zfu (Qn c2 hD) Gk⟩
 have hc:=sqs_smN (rs:=rs) (rr:=ps.map f) (ws:=wtL ps) (x:=x) (n:=ps.length) (m:=T) hn Gk I hD (Qe _) O (λr k _ _=>b1 r k) (λr _=>b2 r) (λr _=>b3 r)
 have hs:SmN 112 101 (Zcr rs (ps.map f) (wtL ps) x T ps.length):=by
  obtain⟨c1,c2⟩:=hc.small (Nat.mul_pos I I);exact⟨Zfu c1 Gk,Zfu (Qn c2 (Zcl hD hD)) Gk⟩
 rw[h.norm]at hN;rw[h.sqs]at hs o;refine .inr ⟨u,x,hN,hxs,hs,λw A B C n c m d0 k e hm hr hw=>?_⟩;refine(o w A B C n c m d0 k e hm hr hw).mono ?_;rintro e w' ⟨A0,n0,c0,A1,n1,c1,B1,m1,d1,rfl,hb,Y,a0,a3⟩
 have U:=Y.fl (λq hq=>by
  obtain⟨k,hk,rfl⟩:=List.mem_map.1 hq;have:=hxs k (List.mem_range.1 hk);exact⟨Qj this.1 (Zbm Gi),Qj this.2 (Zbm Gi)⟩)
 have a2:n0=T:=by have:=U.len;simpa using this.symm
 subst a2;exact⟨hb,_,_,_,_,_,_,_,_,_,_,rfl,U,df_fr a0 a3 ⟨Qj hs.1 (Zbm Gi),Qj hs.2 (Zbm Gi)⟩⟩
structure FitR (ps:List PE) (T:Nat) (x z:Nat->Rat):Prop where
 nx:Zdw (psR ps T) (xiL ps) (wtL ps) x ps.length T
 nz:Zdw (psR ps T) (etL ps) (wtL ps) z ps.length T
 sx:∀ k,k<T->SmN 51 51 (x k)
 sz:∀ k,k<T->SmN 51 51 (z k)
 px:SmN 112 101 (Zcr (psR ps T) (xiL ps) (wtL ps) x T ps.length)
 pz:SmN 112 101 (Zcr (psR ps T) (etL ps) (wtL ps) z T ps.length)
def fitS(ps:List PE)(T:Nat)(x z:Nat->Rat):Rat:=Zcr (psR ps T) (xiL ps) (wtL ps) x T ps.length+Zcr (psR ps T) (etL ps) (wtL ps) z T ps.length
def FitD(ps:List PE)(T:Nat)(w:World)(e:Ending)(w':World):Prop:=
 Below w.heap.size w w'/\((Zas T (Zeh (psR ps T) (wtL ps) ps.length)=0/\e=.returned (.tuple #[.agg #[.int .i64 0,.slice none 0 0,.slice none 0 0],.agg #[.bool false,.slice none 0 0,.bool false,.slice none 0 0],.int .i64 22])) \/
  (Zas T (Zeh (psR ps T) (wtL ps) ps.length)≠0/\∃ (x z:Nat->Rat) (A:Option Addr) (c:Nat) (B:Option Addr) (d:Nat) (sn:Bool) (sA:Option Addr) (sk sc:Nat) (sm:Bool) (sB:Option Addr) (sj sd:Nat),FitR ps T x z /\
   e=.returned (.tuple #[.agg #[.int .i64 T,.slice A T c,.slice B T d],.agg #[.bool sn,.slice sA sk sc,.bool sm,.slice sB sj sd],.int .i64 0])/\FL w' A T c ((Qd T).map x)/\FL w' B T d ((Qd T).map z)/\Fr w' sn sA sk sc sm sB sj sd (fitS ps T x z)))
theorem Zgu{w:World}{g:Nat}{t:TypeId}{x0:Int}{A0 B0:Option Addr}{n0 c0 m0 d0:Nat}{x:Int}{A B':Option Addr}{n c m d:Nat}(hb:Blk w g t #[.int .i64 x0,.slice A0 n0 c0,.slice B0 m0 d0]){na:Bool}{A1:Option Addr}{n1 c1:Nat}{z:Int}(hW:Wd w na A1 n1 c1 z) :
    Wd (((w.setCell ⟨g,0,none⟩ (.int .i64 x)).setCell ⟨g,1,none⟩ (.slice A n c)).setCell ⟨g,2,none⟩ (.slice B' m d)) na A1 n1 c1 z:=by
 have e:Blk (w.setCell ⟨g,0,none⟩ (.int .i64 x)) g t #[.int .i64 x,.slice A0 n0 c0,.slice B0 m0 d0]:=hb.set_ 0 (.int .i64 x);have f:Blk ((w.setCell ⟨g,0,none⟩ (.int .i64 x)).setCell ⟨g,1,none⟩ (.slice A n c)) g t #[.int .i64 x,.slice A n c,.slice B0 m0 d0]:=e.set_ 1 (.slice A n c);exact⟨hW.1,hW.2.1,((hW.2.2.set_box hb (NoLimb.box3 _ _ _ _ _ _ _) _ _).set_box e (NoLimb.box3 _ _ _ _ _ _ _) _ _).set_box f (NoLimb.box3 _ _ _ _ _ _ _) _ _⟩
theorem FL.offZ{w W:World}{g:Nat}{t:TypeId}{A:Option Addr}{n c:Nat}{qs:List Rat}(h:FL w A n c qs)(hb:Blk w g t #[.bool false,.slice none 0 0,.bool false,.slice none 0 0])
    (hw:∀ na A n c z,Wd w na A n c z->Wd W na A n c z) (hc:∀ p:Addr,p.block≠g->W.cell? p=w.cell? p):FL W A n c qs:=by
 obtain⟨es,h1,h2,h3,h4,h5,h6⟩:=h;refine⟨es,h1,h2,h3,λe he=>Fr.keep (h4 e he) hw,h5,λhn=>?_⟩;obtain⟨g1,o1,e1,hk⟩:=h6 hn
 have hg:g1≠g:=λhg=>by
  subst hg;obtain⟨e,he⟩:∃ e,es[0]?=some e:=⟨_,Qc Gk⟩;obtain⟨-,-,-,k4⟩:=hk 0 e he;have k2:(#[.bool false,.slice none 0 0,.bool false,.slice none 0 0]:Array Value)[o1+(0*4+3)]?=some (.slice e.B e.m e.d):=by rw[<- k4];exact(hb.cell _).symm
  have hF:=(h4 e (Ql he)).2.2.2
  have hm:e.m=0:=by
   rcases o1 with _|o1;simp at k2;exact k2.2.1.symm;rw[Array.getElem?_eq_none Gh]at k2;cases k2
  have hd:=hF.1;rw[hm]at hd;have h0:=Qm hd;have h9:=Zh ((e.q.den:Nat):Int).natAbs;rw[h0]at h9;have:=e.q.den_pos;simp[val]at h9;omega
 exact FW
theorem Ir{G:Prop}(h:G:=by
 rw[<- aK];exact((aG.out.far (Nat.succ_ne_self _) _).far (Nat.succ_ne_self _) _).far (Nat.succ_ne_self _) _):G:=h
theorem EG{G:Prop}(h:G:=by
 have h:Tryz.prog.underlying 102=some (.array 4 2):=Gj;simp[Instr.index,run_underlying h,asIntOf,go_sem]):G:=h
theorem IA{G:Prop}(h:G:=by
 have aT:∀ i,(⟨w.heap.size+1,i,none⟩:Addr)≠p:=λi e=>hp (by rw[<- e]);rw[<- bK,World.cell?_setCell_other _ _ _ _ (aT 3),World.cell?_setCell_other _ _ _ _ (aT 2),World.cell?_setCell_other _ _ _ _ (aT 1),World.cell?_setCell_other _ _ _ _ (aT 0)]):G:=h
theorem Eo{G:Prop}(h:G:=by
 exact IA):G:=h
theorem Zwa(A:Option Addr)(n c T:Nat)(ps:List PE)(w:World)(hL:PaL w A n c ps)(hn:n<=200)(hk:ps.all Zc4=true)(hT3:3<=T)(hT:T<=10)(hTn:T<=n)(hg:PowG w) :
    Calls Tryz.prog 26 #[.slice A n c,.int .i64 T] w (FitD ps T w):=by
 have hmx:=Gt;have e4:ps.length=n:=hL.1;obtain⟨W0,p3,d8,⟨q0,q1⟩,s0⟩:=Zcs w 27 #[.int .i64 0,.slice none 0 0,.slice none 0 0] 32 #[.bool false,.slice none 0 0,.bool false,.slice none 0 0];have t1:decide ((n:Int)<(T:Int))=false:=Gu Gk;have t2:¬ ((n:Int)<(T:Int)):=Gk;obtain⟨iR,o1,l2,l7,l6⟩:=info_parts Zwn;obtain⟨iN,k7,f6,f8,f5⟩:=info_parts Zu8;replace hL:=Zb (hL.below d8);replace hk:=Zb hk;replace q0:=Zb q0;replace q1:=Zb q1;replace d8:=Zb d8;replace hg:=Zb (hg.below d8.out);replace e4:=Zb e4;replace s0:=Zb s0;go_in;go_wp2_with fail;(try rw[p3]);clear p3
 have j7:FitI W0.heap.size W0 (λ_=>.slice none 0 0) [] (LLf []):=FitI.start _ _ (λi h1 h4=>by
  have:i=1 \/ i=2 \/ i=3:=Gk;rcases this with rfl|rfl|rfl <;> rfl)
 replace j7:=Zb j7;clear t1 t2
 go_loopg [7,8,9,10,28] n (λk o7 o8 o9 o10 iv wr=>∃ (i:Nat) (V:Nat->Value) (rs:List RI),i+k=n/\iv=.int .i64 i/\o7=V 0/\o8=V 1/\o9=V 2/\o10=V 3/\FitI W0.heap.size wr V rs (LLf (ps.take i))/\LikeP (ps.take i) T rs/\Below W0.heap.size W0 wr)
 case atStart=>exact⟨0,(λ_=>.slice none 0 0),[],by omega,rfl,rfl,rfl,rfl,rfl,by simpa using j7.out,by simpa using LikeP.nil T,Qg _ _⟩
 case round =>
  clear j7;obtain⟨i,V,rs,t3,rfl,rfl,rfl,rfl,rfl,hF,b8,hB⟩:=hrel;obtain⟨wA,rfl⟩:=Gy wr;have m3:W0.heap.size<=wA.heap.size:=hB.size;replace hF:=Zb hF;replace b8:=Zb b8;replace m3:=Zb m3;cases gk with
  | zero =>
   obtain rfl:i=n:=Gk;have tge:decide ((i:Int)<(i:Int))=false:=Gh;have p9:ps.take i=ps:=List.take_of_length_le (by have:=e4.out;omega);rw[p9]at hF b8;obtain⟨Am,cm,m5,Y⟩:=mil_of (by rw[Qf];exact hF.out.o0) (λr hr=>(hF.out.rows r hr).1);obtain⟨A1,c1,n3,e7⟩:=Znq (by rw[Qf];exact hF.out.oj (j:=1) Gi Gi) (hF.out.i64 1 Gi Gi);obtain⟨A2,c2,m7,b5⟩:=Znq (by rw[Qf];exact hF.out.oj (j:=2) Gi Gi) (hF.out.i64 2 Gi Gi);obtain⟨A3,c3,m1,b2⟩:=Znq (by rw[Qf];exact hF.out.oj (j:=3) Gi Gi) (hF.out.i64 3 Gi Gi);rw[Zsu,e4.out]at n3 m7 m1 e7 b5 b2;rw[b8.out.len,e4.out]at m5 Y;rw[m5,n3,m7,m1];have r3:0<ps.length:=by have:=e4.out;omega
   have r6:ps.length<=200:=by have:=e4.out;omega
   have j6:=Zkr (f:=PE.xi) b8.out hk.out r3 r6 Gk hT (λp hp=>(Zb9 hp).2.2.1);have i7:=Zkr (f:=PE.eta) b8.out hk.out r3 r6 Gk hT (λp hp=>(Zb9 hp).2.2.2.1);replace Y:=Zb Y;replace e7:=Zb e7;replace b5:=Zb b5;replace b2:=Zb b2;replace hB:=Zb hB;have C:=Zb (Zc hB.out q0.out);have aG:=Zb (Zc hB.out q1.out);clear hF b8 m5 n3 m7 m1 hL hg p9 o1 l2 l7 l6 k7 f6 f8 f5 m3;have g5:=Zb (Gs d8.out hB.out);rcases j6 with ⟨g1,b6⟩|⟨g1,x,s2,r9,j9,b6⟩
   ·clear i7
    have b4:=b6 wA Am A1 A3 i cm i c1 i c3 Y.out e7.out b2.out;clear b6 Y e7 b5 b2 hB q0 q1 d8;go_wp2_with fail;refine(b4).mono ?_;rintro e w1 ⟨O,A4,n4,c4,sn,sA,sk,sc,sm,sB,sj,sd,rfl⟩;replace C:=Gm O C;replace aG:=Gm O aG;have b9:=Gn g5 O;clear g5 O b4;obtain⟨g3,e9⟩:=Gz w1.heap.size;obtain⟨V5,j0,q7,a6⟩:=Zz (w:=w1) 32 #[.bool sn,.slice sA sk sc,.bool sm,.slice sB sj sd];rw[e9]at q7;replace C:=Gm a6 C;replace aG:=Gm a6 aG;have e6:=Gn b9 a6;clear b9 a6;replace q7:=Zb q7
    skip
    obtain⟨Y1,aK,i5,n1,j4⟩:=Zbe 0 none 0 0 none 0 0 e6.out (Qe _) C.out
    have e8:Blk Y1 (w.heap.size+1) 32 #[.bool false,.slice none 0 0,.bool false,.slice none 0 0]:=by
     exact Ir
    obtain⟨z0,z1,z2,z3,z4,z5,z6,z7⟩:=e8.four;obtain⟨Y2,bK,i6,n5,i0,j8,-⟩:=Zm false none 0 0 false none 0 0 i5 (Qi _) e8;have p0:=C.out.cell 0;have p1:=C.out.cell 1;have p2:=C.out.cell 2;have f0:=C.out.frozen 0;have f1:=C.out.frozen 1;have f2:=C.out.frozen 2;have e0:=j8 _ _ _ Gk n1;have r0:=e0.cell 0;have r1:=e0.cell 1;have r2:=e0.cell 2;obtain⟨d0,d1,d2,d3,-⟩:=n5.four;go_wp2_with fail;(try rw[e9]);(try rw[j0]);clear j0;(try rw[aK]);go_simp;(try rw[bK]);refine bodyPost_ret (v:=.tuple #[.agg #[.int .i64 0,.slice none 0 0,.slice none 0 0],.agg #[.bool false,.slice none 0 0,.bool false,.slice none 0 0],.int .i64 22]) (by simp[results,Tryz.results26,go_sem,r0,r1,r2,d0,d1,d2,d3]) rfl ?_;exact⟨i6,Or.inl ⟨g1,rfl⟩⟩
   rcases i7 with ⟨m0,-⟩|⟨-,z,s5,s4,m9,g0⟩;exact absurd m0 g1;have b4:=b6 wA Am A1 A3 i cm i c1 i c3 Y.out e7.out b2.out;clear b6 e7 hB q0 q1 d8;go_wp2_with fail;refine(b4).mono ?_;rintro e w1 ⟨O,A4,c4,sn,sA,sk,sc,sm,sB,sj,sd,rfl,E,U⟩;replace C:=Gm O C;replace aG:=Gm O aG;replace Y:=Zb (Y.out.below O);replace b5:=Zb (b5.out.below O);replace b2:=Zb (b2.out.below O);have b9:=Gn g5 O;clear g5 O;replace E:=Zb E;replace U:=Zb U;clear b4;obtain⟨g3,e9⟩:=Gz w1.heap.size;obtain⟨V5,j0,q7,a6⟩:=Zz (w:=w1) 32 #[.bool sn,.slice sA sk sc,.bool sm,.slice sB sj sd];rw[e9]at q7;replace C:=Gm a6 C;replace aG:=Gm a6 aG;replace Y:=Zb (Y.out.below a6);replace b5:=Zb (b5.out.below a6);replace b2:=Zb (b2.out.below a6);replace E:=Zb (E.out.below a6);replace U:=Zb (U.out.below a6);have e6:=Gn b9 a6;clear b9 a6;replace q7:=Zb q7;go_wp2_with fail;(try rw[e9]);(try rw[j0]);clear j0;replace e9:=Zb e9;have b4:=g0 V5 Am A2 A3 i cm i c2 i c3 Y.out b5.out b2.out;clear g0;refine(b4).mono ?_;rintro e p6 ⟨O,A5,c5,tn,tA,tk,tc,tm,tB,tj,td,rfl,I,a7⟩;replace C:=Gm O C;replace aG:=Gm O aG;replace Y:=Zb (Y.out.below O);replace b5:=Zb (b5.out.below O);replace b2:=Zb (b2.out.below O);replace E:=Zb (E.out.below O);replace U:=Zb (U.out.below O);replace q7:=Gm O q7
   have g9:=Gn e6 O;clear e6 O;replace I:=Zb I;replace a7:=Zb a7;clear b4 Y b5 b2;obtain⟨t4,f7⟩:=Gz p6.heap.size;obtain⟨p5,l1,b0,b1⟩:=Zz (w:=p6) 32 #[.bool tn,.slice tA tk tc,.bool tm,.slice tB tj td];rw[f7]at b0;replace C:=Gm b1 C;replace aG:=Gm b1 aG;replace E:=Zb (E.out.below b1);replace U:=Zb (U.out.below b1);replace q7:=Gm b1 q7;replace I:=Zb (I.out.below b1);replace a7:=Zb (a7.out.below b1);have i4:=Gn g9 b1;clear g9 b1;replace b0:=Zb b0;obtain⟨q5,f4⟩:=Gz p5.heap.size;obtain⟨q3,l4,b3,a8⟩:=Zz (w:=p5) 70 #[.int .i64 0];rw[f4]at b3;replace C:=Gm a8 C;replace aG:=Gm a8 aG;replace E:=Zb (E.out.below a8);replace U:=Zb (U.out.below a8);replace q7:=Gm a8 q7;replace I:=Zb (I.out.below a8);replace a7:=Zb (a7.out.below a8);replace b0:=Gm a8 b0;have i9:=Gn i4 a8;clear i4 a8;replace b3:=Zb b3;obtain⟨x0,x1,x2,x3,-⟩:=q7.out.four;obtain⟨y0,y1,y2,y3,-⟩:=b0.out.four;obtain⟨s3,f3⟩:=Gz q3.heap.size;obtain⟨s8,l0,c6,a5⟩:=Zz (w:=q3) 32 #[.bool sn,.slice sA sk sc,.bool sm,.slice sB sj sd,.bool tn,.slice tA tk tc,.bool tm,.slice tB tj td];rw[f3]at c6
   replace C:=Gm a5 C;replace aG:=Gm a5 aG;replace E:=Zb (E.out.below a5);replace U:=Zb (U.out.below a5);replace q7:=Gm a5 q7;replace I:=Zb (I.out.below a5);replace a7:=Zb (a7.out.below a5);replace b0:=Gm a5 b0;replace b3:=Gm a5 b3;have i8:=Gn i9 a5;clear i9 a5;replace c6:=Zb c6;go_wp2_with fail;(try rw[f7]);(try rw[l1]);(try rw[f4]);(try rw[l4]);(try rw[f3]);(try rw[l0]);clear l1;replace f7:=Zb f7;clear l4;replace f4:=Zb f4;clear l0;replace f3:=Zb f3;clear x0 x1 x2 x3 y0 y1 y2 y3;have p7:=Zb (FL.pair2 c6.out U.out a7.out);have q8:SmN 300 300 ((Zcr (psR ps T) (ps.map PE.xi) (wtL ps) x T ps.length)+(Zcr (psR ps T) (ps.map PE.eta) (wtL ps) z T ps.length)):=(j9.add m9).mono Gi Gi;clear U a7
   refine(Zj3 q5 (some ⟨s3,0,none⟩) 2 2 [(Zcr (psR ps T) (ps.map PE.xi) (wtL ps) x T ps.length),(Zcr (psR ps T) (ps.map PE.eta) (wtL ps) z T ps.length)] s8 b3.out p7.out Gk (λk hk=>match k,hk with
    | 0,_=>j9.sm Gi Gi
    | 1,_=>m9.sm Gi Gi) (λk hk=>match k,hk with
    | 0,_=>Zfi
    | 1,_=>by show Sm (0+_);rw[Qt];exact j9.sm Gi Gi
    | 2,_=>by show Sm (0+_+_);rw[Qt];exact q8.sm Gi Gi)).mono ?_
   rintro e r4 ⟨a9,un,uA,uk,uc,um,uB,uj,ud,rfl,c7⟩;replace C:=Gm a9 C;replace aG:=Gm a9 aG;replace E:=Zb (E.out.below a9);replace q7:=Gm a9 q7;replace I:=Zb (I.out.below a9);replace b0:=Gm a9 b0;replace b3:=Gm a9 b3;replace c6:=Gm a9 c6;have h6:=Gn i8 a9;clear i8 a9;have e2:psQ [(Zcr (psR ps T) (ps.map PE.xi) (wtL ps) x T ps.length),(Zcr (psR ps T) (ps.map PE.eta) (wtL ps) z T ps.length)] 2=(Zcr (psR ps T) (ps.map PE.xi) (wtL ps) x T ps.length)+(Zcr (psR ps T) (ps.map PE.eta) (wtL ps) z T ps.length):=(by show 0+_+_=_;rw[Qt];rfl);rw[e2]at c7;clear e2 p7;replace c7:=Zb c7;have f9:=aG.out.lt;obtain⟨g7,c9⟩:=Gz r4.heap.size;obtain⟨j1,l3,d9,a4⟩:=Zz (w:=r4) 32 #[.bool un,.slice uA uk uc,.bool um,.slice uB uj ud];rw[c9]at d9;replace C:=Gm a4 C;replace aG:=Gm a4 aG;replace E:=Zb (E.out.below a4);replace q7:=Gm a4 q7;replace I:=Zb (I.out.below a4);replace b0:=Gm a4 b0;replace b3:=Gm a4 b3;replace c6:=Gm a4 c6;replace c7:=Zb (c7.out.below a4);have h8:=Gn h6 a4;clear h6 a4;replace d9:=Zb d9;rw[c9]at f9;replace f9:=Zb f9;have k0:j1.cell? ⟨q5,0,none⟩=some (.int .i64 0):=b3.out.cell 0;go_wp2_with fail;(try rw[c9])
   (try rw[l3]);clear l3;replace c9:=Zb c9;clear k0;obtain⟨a0,a1,a2,a3,-⟩:=d9.out.four;have J:Below j1.heap.size j1 j1.drew:=Zg (Qg _ _) 1;replace C:=Gm J C;replace aG:=Gm J aG;replace E:=Zb (E.out.below J);replace q7:=Gm J q7;replace I:=Zb (I.out.below J);replace b0:=Gm J b0;replace b3:=Gm J b3;replace c6:=Gm J c6;replace c7:=Zb (c7.out.below J);replace d9:=Gm J d9;have l8:=Gn h8 J;clear h8;replace a0:=Za J a0;replace a1:=Za J a1;replace a2:=Za J a2;replace a3:=Za J a3;clear J;refine Zad [6] (λwx=>(wx.cell? ⟨g7,0,none⟩=some (.bool un))/\(wx.cell? ⟨g7,1,none⟩=some (.slice uA uk uc))/\(wx.cell? ⟨g7,2,none⟩=some (.bool um))/\(wx.cell? ⟨g7,3,none⟩=some (.slice uB uj ud))) hmx ⟨a0,a1,a2,a3⟩ (λ_=>?_);refine Zin 4 [0,1,2,4] rfl Gj ⟨a0,a1,a2,a3⟩ ?_
   iterate 4 (refine tkA ?_;try simp only[Qb,Zf6,Zfl,Zfx,Gr,Gq,Gp])
   refine tk0 ?_;refine Zfm 1 [3] rfl Gj ⟨a0,a1,a2,a3⟩ ?_
   (refine tkA ?_;try simp only[Qb,Zf6,Zfl,Zfx,Gr,Gq,Gp])
   refine tk0 ?_;clear a0 a1 a2 a3;obtain⟨wD,r5⟩:∃ z:World,j1.drew=z:=⟨_,rfl⟩;rw[r5]at C aG E I c7 d9 l8 ⊢;clear r5;obtain⟨Y1,aK,i5,n1,j4⟩:=Zbe T A4 T c4 A5 T c5 l8.out (Qe _) C.out
   have o5:∀ na A n c z,Wd wD na A n c z->Wd Y1 na A n c z:=λna A n c z hW=>by
    rw[<- aK];exact Zgu C.out hW
   have e8:Blk Y1 (w.heap.size+1) 32 #[.bool false,.slice none 0 0,.bool false,.slice none 0 0]:=by
    exact Ir
   have n8:Blk Y1 g7 32 #[.bool un,.slice uA uk uc,.bool um,.slice uB uj ud]:=by
    have aT:g7≠w.heap.size:=by have:=f9.out;omega
    rw[<- aK];exact((d9.out.far aT _).far aT _).far aT _
   have j6:=j4 _ _ _ _ E.out;have i7:=j4 _ _ _ _ I.out;have p8:=Fr.keep c7.out o5;have p0:=C.out.cell 0;have p1:=C.out.cell 1;have p2:=C.out.cell 2;have f0:=C.out.frozen 0;have f1:=C.out.frozen 1;have f2:=C.out.frozen 2;obtain⟨k0,k1,k2,k3,-⟩:=n8.four;refine wpAnyL_o 5 λK hK=>?_;go_simp;(try rw[aK]);refine hK.out _ _ (λ_=>⟨k0,k1,k2,k3⟩) ?_;clear hK K aK k0 k1 k2 k3 p0 p1 p2 f0 f1 f2
   try simp only[Qb,Zf6,Zfl,Zfx,Gr,Gq,Gp]
   obtain⟨z0,z1,z2,z3,z4,z5,z6,z7⟩:=e8.four;obtain⟨Y2,bK,i6,n5,i0,j8,t0⟩:=Zm un uA uk uc um uB uj ud i5 (Qi _) e8
   have n6:∀ p:Addr,p.block≠w.heap.size+1->Y2.cell? p=Y1.cell? p:=λp hp=>by
    exact Eo
   have s9:=Zb (j6.offZ e8 i0 n6);have s6:=Zb (i7.offZ e8 i0 n6);have r7:=Zb (Fr.keep p8 i0);have e0:=j8 _ _ _ Gk n1;refine Zr (i:=6) rfl Gj Gj (λK hK=>?_);go_simp;(try rw[bK]);refine hK.out _ _ ?_;clear hK K bK z0 z1 z2 z3 z4 z5 z6 z7 n6 i0 j8 j6 i7 p8 j4 o5
   try simp only[Qb,Zf6,Zfl,Zfx,Gr,Gq,Gp]
   refine Zr (i:=7) rfl Gj Gj (λK hK=>?_);go_simp;refine hK.out _ _ ?_;clear hK K
   try simp only[Qb,Zf6,Zfl,Zfx,Gr,Gq,Gp]
   refine wpAnyL_fin ?_;have r0:=e0.cell 0;have r1:=e0.cell 1;have r2:=e0.cell 2;obtain⟨d0,d1,d2,d3,-⟩:=n5.four;go_wp2_with fail;refine bodyPost_ret (v:=.tuple #[.agg #[.int .i64 T,.slice A4 T c4,.slice A5 T c5],.agg #[.bool un,.slice uA uk uc,.bool um,.slice uB uj ud],.int .i64 0]) (by simp[results,Tryz.results26,go_sem,r0,r1,r2,d0,d1,d2,d3]) rfl ?_;exact⟨i6,Or.inr ⟨g1,x,z,_,_,_,_,_,_,_,_,_,_,_,_,⟨s2,s5,r9,s4,j9,m9⟩,rfl,s9.out,s6.out,r7.out⟩⟩
  | succ gk' =>
   obtain rfl:gk'=n-(i+1):=Gk;have s1:i<n:=Gk;have tlt:decide ((i:Int)<(n:Int))=true:=by simp;omega
   have bI:(i:Int)<(n:Int):=Gk;have q6:=hL.out.below hB;obtain⟨g,o,q,rfl,hq,c0,c1,c2,c3,c4⟩:=q6.at_ s1;have g4:Zc4 q=true:=List.all_eq_true.1 hk.out q (Ql hq);have k8:=Zb9 g4;obtain⟨V5,o2,qp,h0⟩:=Zz (w:=wA) 24 #[.int .i64 q.x,.int .i64 q.y,.int .i64 q.xi,.int .i64 q.eta,.int .i64 q.wt];obtain⟨gp,n0⟩:=Gz wA.heap.size;rw[n0]at qp;have c8:Off 4 V gp:=hF.out.own.off (.inr (by rw[n0];exact Qe _));have l9:=Zb (hF.out.below h0);have k4:=Zb (Gs hB h0);have w0:V5.cell? ⟨gp,0,none⟩=some (.int .i64 q.x):=qp.cell 0;have w1:V5.cell? ⟨gp,1,none⟩=some (.int .i64 q.y):=qp.cell 1;replace qp:=Zb qp;replace c8:=Zb c8;replace g4:=Zb g4;replace k8:=Zb k8;replace hq:=Zb hq;replace hB:=Zb hB;replace h0:=Zb h0;go_wp2_with fail;(try rw[n0]);(try rw[o2]);clear o2 c0 c1 c2 c3 c4;(try go_wp2_with fail);refine(row_ok q.x q.y T V5 hT k8.out.1 k8.out.2.1 (hg.out.below k4.out)).mono ?_;rintro e w6 ⟨a9,v6,g6,p4,rfl,o6⟩;obtain⟨r,rfl,g8,k6,o3⟩:=RowO.fresh l9.out.own o6 p4;have q9:=Zb (l9.out.below a9);have n9:=Gm a9 qp;have m4:=Gn k4 a9;rw[Zpr]at g8;replace g8:=Zb g8;replace k6:=Zb k6;clear o6 p4 hF l9 k4 a9 h0 w0 w1 qp;obtain⟨W7,s7,q7,j3⟩:=Zz (w:=w6) 63 #[.slice r.A r.n r.c];have j5:=Zb (q9.out.below j3);have m8:=Gm j3 n9;have k5:=Gn m4 j3;have l5:=Zb (o3.below j3);replace q7:=Zb q7
   have e5:Hid (rs.length+1<=1000):=Zb (by
    have h1:=b8.out.len;have h2:(ps.take i).length<=i:=Qs _ _;omega)
   clear q9 n9 m4 o3 j3;subst s7;go_wp2_with (go_loud (at_builtin;refine Zp _ rfl (.tmp 32) (.tmp 39) 104 rfl W0.heap.size 63 iR _ 1 24 Tryz.underlying104 o1 l2 l7 l6 rfl Gk (V 0) rs.length (rs.map Zi1) rfl j5.out.o0 _ (some ⟨w6.heap.size,0,none⟩) 1 1 [Zi1 r] rfl (Zfy q7.out) (by intro u hu;rw[List.mem_singleton]at hu;subst hu;rfl) (by have:=e5.out;simp only[maxLen];omega) (by have:=e5.out;omega) (Qn k5.out.size (Qe _)) ?_;intro v8 w8 i2 k9 h7));have m2:=Zb (j5.out.push0 l5.out i2 k9 h7);have a6:=Zk5 j5.out.own (by decide:0<4) k5.out.size k9;have n2:=Zb (k5.out.trans a6);have g2:=Zb (Off.blk c8.out (by decide:0<4) m8.out k9);have m6:=Zb (Off.push c8.out m8.out.lt (by decide:0<4) h7);have q4:=Zb (b8.out.snoc (p:=q) g8.out k6.out);clear j5 k5 m8 l5 q7 i2 k9 h7 a6 c8 g8 k6 b8 e5 q6;have c2:w8.cell? ⟨gp,2,none⟩=some (.int .i64 q.xi):=g2.out.cell 2;have c3:w8.cell? ⟨gp,3,none⟩=some (.int .i64 q.eta):=g2.out.cell 3;have c4:w8.cell? ⟨gp,4,none⟩=some (.int .i64 q.wt):=g2.out.cell 4;have e1:Below w8.heap.size w8 w8.drew:=Zg (Qg _ _) 1;replace g2:=Gm e1 g2;replace m2:=Zb (m2.out.below e1);have b9:=Gn n2 e1;clear n2;replace c2:=Za e1 c2;replace c3:=Za e1 c3;replace c4:=Za e1 c4;clear e1;refine Zad [] (λwx=>(wx.cell? ⟨gp,2,none⟩=some (.int .i64 q.xi))/\(wx.cell? ⟨gp,3,none⟩=some (.int .i64 q.eta))/\(wx.cell? ⟨gp,4,none⟩=some (.int .i64 q.wt))) hmx ⟨c2,c3,c4⟩ (λ_=>?_);refine Zin 9 [0,1,2,5,6,7,10,11,12] rfl Gj ⟨c2,c3,c4⟩ ?_
   iterate 9 (refine tkA ?_;try simp only[Qb,Zf6,Zfl,Zfx,Gr,Gq,Gp])
   refine tk0 ?_
   have i3:∀ j,(LLf (ps.take i) j).length<=200:=λj=>by
    rw[Zsu];exact Qn (Qs _ _) Gk
   replace i3:=Zb i3;refine Zo7 [(3,44),(4,45),(8,49),(9,50),(13,54),(14,55)] (FitJ W0.heap.size w8.drew gp 24 #[.int .i64 q.x,.int .i64 q.y,.int .i64 q.xi,.int .i64 q.eta,.int .i64 q.wt] (Ze5 V 0 v8) (rs ++ [r]) (LLf (ps.take i)) (xxF q)) 3 Gj (FitJ.start m2.out b9.out.size g2.out m6.out) (λd wx h=>⟨h.pair.1.cell 2,h.pair.1.cell 3,h.pair.1.cell 4⟩) ?hop ?hfin
   case hop =>
    intro p hp;simp only[Qr,Qo,or_false]at hp;simp only[Qh,Qk,Zaj,Qb,Zf6,Zfl,Zfx];rcases hp with rfl|rfl|rfl|rfl|rfl|rfl
    ·intro d ν wx hd hP hJ
     refine Zj (i:=3) rfl (λK hK=>?_);go_simp;exact hK.out _ _ ⟨_,rfl,hJ.build (j:=1) Gi Gi⟩
    ·intro d ν wx hd hP hJ
     have h3:=hP (3,44) Gh Gj;obtain⟨gb,e3,i1,q2⟩:=hJ.new 1 Gi Gi _ h3;have h5:ν 44=.slice (some ⟨gb,0,none⟩) 1 1:=e3;rw[h5];have d7:d (5*1-1)=none:=hd;have d6:=hJ.own (j:=1) Gi Gi d7;have o4:=i3.out 1;refine Zj (i:=4) rfl (λK hK=>?_);rw[Gx Gj];refine Zd7 _ (.tmp 41) (.tmp 44) 63 rfl W0.heap.size 2 iN _ 1 8 Tryz.underlying63 k7 f6 f8 f5 rfl Gk (V 1) _ _ rfl d6 wx.heap.size (some ⟨gb,0,none⟩) 1 1 [intv (xxF q 1)] rfl (Zfy i1) (Zef [xxF q 1]) (by simp only[maxLen];omega) Gk hJ.pos ?_;intro v9 w9 b7 j2 d5;exact hK.out _ _ ⟨_,rfl,hJ.app2 (j:=1) Gi Gi d7 (Zot g4.out 1) b7 j2 d5⟩
    ·intro d ν wx hd hP hJ
     refine Zj (i:=8) rfl (λK hK=>?_);go_simp;exact hK.out _ _ ⟨_,rfl,hJ.build (j:=2) Gi Gi⟩
    ·intro d ν wx hd hP hJ
     have h3:=hP (8,49) Gh Gj;obtain⟨gb,e3,i1,q2⟩:=hJ.new 2 Gi Gi _ h3;have h5:ν 49=.slice (some ⟨gb,0,none⟩) 1 1:=e3;rw[h5];have d7:d (5*2-1)=none:=hd;have d6:=hJ.own (j:=2) Gi Gi d7;have o4:=i3.out 2;refine Zj (i:=9) rfl (λK hK=>?_);rw[Gx Gj];refine Zd7 _ (.tmp 46) (.tmp 49) 63 rfl W0.heap.size 2 iN _ 1 8 Tryz.underlying63 k7 f6 f8 f5 rfl Gk (V 2) _ _ rfl d6 wx.heap.size (some ⟨gb,0,none⟩) 1 1 [intv (xxF q 2)] rfl (Zfy i1) (Zef [xxF q 2]) (by simp only[maxLen];omega) Gk hJ.pos ?_;intro v9 w9 b7 j2 d5;exact hK.out _ _ ⟨_,rfl,hJ.app2 (j:=2) Gi Gi d7 (Zot g4.out 2) b7 j2 d5⟩
    ·intro d ν wx hd hP hJ
     refine Zj (i:=13) rfl (λK hK=>?_);go_simp;exact hK.out _ _ ⟨_,rfl,hJ.build (j:=3) Gi Gi⟩
    intro d ν wx hd hP hJ;have h3:=hP (13,54) Gh Gj;obtain⟨gb,e3,i1,q2⟩:=hJ.new 3 Gi Gi _ h3;have h5:ν 54=.slice (some ⟨gb,0,none⟩) 1 1:=e3;rw[h5];have d7:d (5*3-1)=none:=hd;have d6:=hJ.own (j:=3) Gi Gi d7;have o4:=i3.out 3;refine Zj (i:=14) rfl (λK hK=>?_);rw[Gx Gj];refine Zd7 _ (.tmp 51) (.tmp 54) 63 rfl W0.heap.size 2 iN _ 1 8 Tryz.underlying63 k7 f6 f8 f5 rfl Gk (V 3) _ _ rfl d6 wx.heap.size (some ⟨gb,0,none⟩) 1 1 [intv (xxF q 3)] rfl (Zfy i1) (Zef [xxF q 3]) (by simp only[maxLen];omega) Gk hJ.pos ?_;intro v9 w9 b7 j2 d5;exact hK.out _ _ ⟨_,rfl,hJ.app2 (j:=3) Gi Gi d7 (Zot g4.out 3) b7 j2 d5⟩
   case hfin =>
    intro d ν wx hJ hP;have h4:d 4=some (ν 45):=hP (4,45) Gh;have h9:d 9=some (ν 50):=hP (9,50) Gh;have n7:d 14=some (ν 55):=hP (14,55) Gh;have r8:=Zb (hJ.all h4 h9 n7);have e6:=Zb (b9.out.trans hJ.bel);have d2:=hJ.pair.1.cell 2;have d3:=hJ.pair.1.cell 3;have d4:=hJ.pair.1.cell 4;simp only[Qh,Qk,Zaj,Qb,Zf6,Zfl,Zfx];clear h4 h9 n7 hP hJ;refine ?_;refine Zfm 3 [15,16,17] rfl Gj ⟨d2,d3,d4⟩ ?_
    iterate 3 (refine tkA ?_;try simp only[Qb,Zf6,Zfl,Zfx,Gr,Gq,Gp])
    refine tk0 ?_;refine wpAnyL_fin ?_;clear d2 d3 d4
    skip
    go_wp2_with fail
    go_roundg (n-(i+1))
    case measure=>omega
    case rel=>exact⟨i+1,_,rs ++ [r],by omega,by go_num,rfl,rfl,rfl,rfl,by rw[Zng hq.out];exact r8.out,by rw[Zng hq.out];exact q4.out,e6.out⟩
@[local go_sem] theorem idx_four0 (a b c d:Int) (w:World):(Instr.index 102 (.agg #[.int .i64 a,.int .i64 b,.int .i64 c,.int .i64 d]) (.int .i64 0)).run Tryz.prog w=.ok (.int .i64 a) w:=by
 exact EG
@[local go_sem] theorem idx_four1 (a b c d:Int) (w:World):(Instr.index 102 (.agg #[.int .i64 a,.int .i64 b,.int .i64 c,.int .i64 d]) (.int .i64 1)).run Tryz.prog w=.ok (.int .i64 b) w:=by
 exact EG
@[local go_sem] theorem idx_four2 (a b c d:Int) (w:World):(Instr.index 102 (.agg #[.int .i64 a,.int .i64 b,.int .i64 c,.int .i64 d]) (.int .i64 2)).run Tryz.prog w=.ok (.int .i64 c) w:=by
 exact EG
@[local go_sem] theorem idx_four3 (a b c d:Int) (w:World):(Instr.index 102 (.agg #[.int .i64 a,.int .i64 b,.int .i64 c,.int .i64 d]) (.int .i64 3)).run Tryz.prog w=.ok (.int .i64 d) w:=by
 exact EG
@[local go_sem] theorem idx_pair0 (a b:Int) (w:World):(Instr.index 103 (.agg #[.int .i64 a,.int .i64 b]) (.int .i64 0)).run Tryz.prog w=.ok (.int .i64 a) w:=by
 have h:Tryz.prog.underlying 103=some (.array 2 2):=Gj;exact ED
@[local go_sem] theorem idx_pair1 (a b:Int) (w:World):(Instr.index 103 (.agg #[.int .i64 a,.int .i64 b]) (.int .i64 1)).run Tryz.prog w=.ok (.int .i64 b) w:=by
 have h:Tryz.prog.underlying 103=some (.array 2 2):=Gj;exact ED
theorem Zt9(A:Option Addr)(n c:Nat)(ps:List PE)(w:World)(hL:PaL w A n c ps)(hn:n<=200)(hk:ps.all Zc4=true) :
    Calls Tryz.prog 25 #[.slice A n c] w λe w'=>Below w.heap.size w w'/\e=.returned (.int .i64 0):=by
 have u:=Zb (Qg w.heap.size w);have U:decide ((200:Int)<(n:Int))=false:=Gu Gk;have E:decide (200<n)=false:=Gu Gk;replace hL:=Zb hL;replace hk:=Zb hk;go_in;go_wp2_with fail
 go_loopg [13] n (λk iv wr=>∃ i:Nat,i+k=n/\iv=.int .i64 i/\Below w.heap.size w wr)
 case atStart=>exact⟨0,by omega,rfl,u.out⟩
 case round =>
  clear u;obtain⟨i,a6,rfl,hB⟩:=hrel;obtain⟨wA,rfl⟩:=Gy wr;cases gk with
  | zero =>
   obtain rfl:i=n:=Gk;have tge:decide ((i:Int)<(i:Int))=false:=Gh;replace hB:=Zb hB;go_wp2_with fail;go_ret;exact⟨hB.out,rfl⟩
  | succ gk' =>
   obtain rfl:gk'=n-(i+1):=Gk;have O:i<n:=Gk;have tlt:decide ((i:Int)<(n:Int))=true:=by simp;omega
   have bI:(i:Int)<(n:Int):=Gk;obtain⟨g,o,q,rfl,hq,c0,c1,c2,c3,c4⟩:=(hL.out.below hB).at_ O;have f:Zc4 q=true:=List.all_eq_true.1 hk.out q (Ql hq);obtain⟨a0,a1,a2,a3,a4⟩:=q;dsimp only at c0 c1 c2 c3 c4;unfold Zc4 at f;simp only[Bool.and_eq_true,decide_eq_true_eq]at f;obtain⟨⟨⟨⟨⟨⟨⟨⟨⟨k1,k2⟩,k3⟩,k4⟩,k5⟩,k6⟩,k7⟩,k8⟩,k9⟩,a5⟩:=f;obtain⟨V,hV,qV,C⟩:=Zz (w:=wA) 24 #[.int .i64 a0,.int .i64 a1,.int .i64 a2,.int .i64 a3,.int .i64 a4];obtain⟨gv,h⟩:=Gz wA.heap.size;rw[h]at qV;have J:=Zb (Gs hB C);have w0:V.cell? ⟨gv,0,none⟩=some (.int .i64 a0):=qV.cell 0;have w1:V.cell? ⟨gv,1,none⟩=some (.int .i64 a1):=qV.cell 1;have w2:V.cell? ⟨gv,2,none⟩=some (.int .i64 a2):=qV.cell 2;have w3:V.cell? ⟨gv,3,none⟩=some (.int .i64 a3):=qV.cell 3;have w4:V.cell? ⟨gv,4,none⟩=some (.int .i64 a4):=qV.cell 4;clear C qV hB;go_wp2_with fail;(try rw[h]);(try rw[hV]);clear hV c0 c1 c2 c3 c4;(try go_wp2_with fail);(try go_simp)
   go_loopg [26] 4 (λk iv wr=>∃ kk:Nat,kk+k=4/\iv=.int .i64 kk/\wr=V)
   case atStart=>exact⟨0,by omega,rfl,rfl⟩
   case round =>
    obtain⟨kk,Y,rfl,rfl⟩:=hrel;have I:kk=0 \/ kk=1 \/ kk=2 \/ kk=3 \/ kk=4:=Gk;rcases I with rfl|rfl|rfl|rfl|rfl
    ·have u1:decide (a0 < -8192)=false:=Gu Gk
     have u2:decide ((8192:Int)<a0)=false:=Gu Gk;cases gk with
     | zero=>omega
     | succ gk0 =>
      obtain rfl:gk0=3:=Gk
      (try rw[show ((0:Nat):Int)=0 from rfl]);go_wp2_with fail
      go_roundg 3
      case measure=>omega
      case rel=>exact⟨1,by omega,by go_num,rfl⟩
    ·have u1:decide (a1 < -8192)=false:=Gu Gk
     have u2:decide ((8192:Int)<a1)=false:=Gu Gk;cases gk with
     | zero=>omega
     | succ gk0 =>
      obtain rfl:gk0=2:=Gk
      (try rw[show ((1:Nat):Int)=1 from rfl]);go_wp2_with fail
      go_roundg 2
      case measure=>omega
      case rel=>exact⟨2,by omega,by go_num,rfl⟩
    ·have u1:decide (a2 < -1099511627776)=false:=Gu Gk
     have u2:decide ((1099511627776:Int)<a2)=false:=Gu Gk;cases gk with
     | zero=>omega
     | succ gk0 =>
      obtain rfl:gk0=1:=Gk
      (try rw[show ((2:Nat):Int)=2 from rfl]);go_wp2_with fail
      go_roundg 1
      case measure=>omega
      case rel=>exact⟨3,by omega,by go_num,rfl⟩
    ·have u1:decide (a3 < -1099511627776)=false:=Gu Gk
     have u2:decide ((1099511627776:Int)<a3)=false:=Gu Gk;cases gk with
     | zero=>omega
     | succ gk0 =>
      obtain rfl:gk0=0:=Gk
      (try rw[show ((3:Nat):Int)=3 from rfl]);go_wp2_with fail
      go_roundg 0
      case measure=>omega
      case rel=>exact⟨4,by omega,by go_num,rfl⟩
    have u1:decide (a4<1)=false:=Gu Gk;have u2:decide ((1048576:Int)<a4)=false:=Gu Gk;cases gk with
    | succ gk0=>omega
    | zero =>
     (try rw[show ((4:Nat):Int)=4 from rfl]);go_wp2_with fail
     go_roundg (n-(i+1))
     case measure=>omega
     case rel=>exact⟨i+1,by omega,by go_num,J.out⟩
theorem Ie{G:Prop}(h:G:=by
 exact⟨bC,Or.inr ⟨cl,x,z,_,_,_,_,_,_,_,_,_,_,_,_,hR,rfl,eN.out,ib.out,ip.out⟩⟩):G:=h
theorem Cr{G:Prop}(h:G:=by
 rw[<- aK];exact((q1.out.far (Nat.succ_ne_self _) _).far (Nat.succ_ne_self _) _).far (Nat.succ_ne_self _) _):G:=h
theorem EE{G:Prop}(h:G:=by
 exact Cr):G:=h
theorem Er{G:Prop}(h:G:=by
 have dG:∀ na A n c z,Wd w2 na A n c z->Wd Y1 na A n c z:=λna A n c z hW=>by
  rw[<- aK];exact Zgu q0.out hW
 have cd:Blk Y1 (w.heap.size+1) 32 #[.bool false,.slice none 0 0,.bool false,.slice none 0 0]:=by
  exact Cr
 have p0:=q0.out.cell 0;have p1:=q0.out.cell 1;have p2:=q0.out.cell 2;have f0:=q0.out.frozen 0;have f1:=q0.out.frozen 1;have f2:=q0.out.frozen 2;obtain⟨z0,z1,z2,z3,z4,z5,z6,z7⟩:=cd.four;obtain⟨Y2,bK,bC,dH,bQ,ce,el⟩:=Zm false none 0 0 false none 0 0 aM (Nat.le_succ _) cd
 have cS:∀ p:Addr,p.block≠w.heap.size+1->Y2.cell? p=Y1.cell? p:=λp hp=>by
  exact IA
 have cD:=ce _ _ _ Gk de;have r0:=cD.cell 0;have r1:=cD.cell 1;have r2:=cD.cell 2;obtain⟨d0,d1,d2,d3,-⟩:=dH.four;clear cN dG cS bQ ce;go_wp2_with fail;(try rw[aK]);go_simp;(try rw[bK]);refine bodyPost_ret (v:=.tuple #[.agg #[.int .i64 0,.slice none 0 0,.slice none 0 0],.agg #[.bool false,.slice none 0 0,.bool false,.slice none 0 0],.int .i64 22]) (by simp[results,Tryz.results7,go_sem,r0,r1,r2,d0,d1,d2,d3]) rfl ?_;exact⟨bC,Or.inl ⟨cl,rfl⟩⟩):G:=h
theorem Zse(A:Option Addr)(n c T:Nat)(ps:List PE)(w:World)(hL:PaL w A n c ps)(hn:n<=200)(hk:ps.all Zc4=true)(hT:T=3 \/ T=10)(hTn:T<=n)(hg:PowG w) :
    Calls Tryz.prog 7 #[.slice A n c,.int .i64 T] w (FitD ps T w):=by
 obtain⟨W0,U,C,⟨q0,q1⟩,s0⟩:=Zcs w 27 #[.int .i64 0,.slice none 0 0,.slice none 0 0] 32 #[.bool false,.slice none 0 0,.bool false,.slice none 0 0]
 have t3:(!decide ((T:Int)=3) && !decide ((T:Int)=10))=false:=by
  rcases hT with rfl|rfl <;> decide
 replace hL:=Zb (hL.below C);replace q0:=Zb q0;replace q1:=Zb q1;replace C:=Zb C;replace hg:=Zb (hg.below C.out);replace s0:=Zb s0;go_in;go_wp2_with fail;(try rw[U]);clear U;refine(Zt9 A n c ps W0 hL.out hn hk).mono ?_;rintro e w1 ⟨I,rfl⟩;replace q0:=Gm I q0;replace q1:=Gm I q1;replace hL:=Zb (hL.out.below I);replace hg:=Zb (hg.out.below I);have E:=Gn C I;clear C I;rcases hT with rfl|rfl
 ·skip
  have u:=Zwa A n c 3 ps w1 hL.out hn hk Gi Gi hTn hg.out;go_wp2_with fail;refine u.mono ?_;rintro e w2 ⟨f,O⟩;clear u;replace q0:=Gm f q0;replace q1:=Gm f q1;have a0:=Gn E f;clear E f hL hg;rcases O with ⟨cl,rfl⟩|⟨cl,x,z,fA,fc,fB,fd,sn,sA,sk,sc,sm,sB,sj,sd,hR,rfl,o,h,J⟩
  ·skip
   obtain⟨Y1,aK,aM,de,cN⟩:=Zbe 0 none 0 0 none 0 0 a0.out (Qe _) q0.out;exact Er
  skip
  obtain⟨Y1,aK,aM,de,cN⟩:=Zbe 3 fA 3 fc fB 3 fd a0.out (Qe _) q0.out
  have dG:∀ na A n c z,Wd w2 na A n c z->Wd Y1 na A n c z:=λna A n c z hW=>by
   rw[<- aK];exact Zgu q0.out hW
  have cd:Blk Y1 (w.heap.size+1) 32 #[.bool false,.slice none 0 0,.bool false,.slice none 0 0]:=by
   exact EE
  have p0:=q0.out.cell 0;have p1:=q0.out.cell 1;have p2:=q0.out.cell 2;have f0:=q0.out.frozen 0;have f1:=q0.out.frozen 1;have f2:=q0.out.frozen 2;obtain⟨z0,z1,z2,z3,z4,z5,z6,z7⟩:=cd.four;obtain⟨Y2,bK,bC,dH,bQ,ce,el⟩:=Zm sn sA sk sc sm sB sj sd aM (Qi _) cd
  have cS:∀ p:Addr,p.block≠w.heap.size+1->Y2.cell? p=Y1.cell? p:=λp hp=>by
   exact Eo
  have cD:=ce _ _ _ Gk de;have r0:=cD.cell 0;have r1:=cD.cell 1;have r2:=cD.cell 2;obtain⟨d0,d1,d2,d3,-⟩:=dH.four;have eN:=Zb ((cN _ _ _ _ o).offZ cd bQ cS);have ib:=Zb ((cN _ _ _ _ h).offZ cd bQ cS);have ip:=Zb (Fr.keep (Fr.keep J dG) bQ);clear cN dG cS bQ ce o h J;go_wp2_with fail;(try rw[aK]);go_simp;(try rw[bK]);refine bodyPost_ret (v:=.tuple #[.agg #[.int .i64 3,.slice fA 3 fc,.slice fB 3 fd],.agg #[.bool sn,.slice sA sk sc,.bool sm,.slice sB sj sd],.int .i64 0]) (by simp[results,Tryz.results7,go_sem,r0,r1,r2,d0,d1,d2,d3]) rfl ?_;exact Ie
 skip
 have u:=Zwa A n c 10 ps w1 hL.out hn hk Gi Gi hTn hg.out;go_wp2_with fail;refine u.mono ?_;rintro e w2 ⟨f,O⟩;clear u;replace q0:=Gm f q0;replace q1:=Gm f q1;have Y:=Gn E f;clear E f hL hg;rcases O with ⟨cl,rfl⟩|⟨cl,x,z,fA,fc,fB,fd,sn,sA,sk,sc,sm,sB,sj,sd,hR,rfl,o,h,J⟩
 ·skip
  obtain⟨Y1,aK,aM,de,cN⟩:=Zbe 0 none 0 0 none 0 0 Y.out (Qe _) q0.out;exact Er
 skip
 obtain⟨Y1,aK,aM,de,cN⟩:=Zbe 10 fA 10 fc fB 10 fd Y.out (Qe _) q0.out
 have dG:∀ na A n c z,Wd w2 na A n c z->Wd Y1 na A n c z:=λna A n c z hW=>by
  rw[<- aK];exact Zgu q0.out hW
 have cd:Blk Y1 (w.heap.size+1) 32 #[.bool false,.slice none 0 0,.bool false,.slice none 0 0]:=by
  exact EE
 have p0:=q0.out.cell 0;have p1:=q0.out.cell 1;have p2:=q0.out.cell 2;have f0:=q0.out.frozen 0;have f1:=q0.out.frozen 1;have f2:=q0.out.frozen 2;obtain⟨z0,z1,z2,z3,z4,z5,z6,z7⟩:=cd.four;obtain⟨Y2,bK,bC,dH,bQ,ce,el⟩:=Zm sn sA sk sc sm sB sj sd aM (Qi _) cd
 have cS:∀ p:Addr,p.block≠w.heap.size+1->Y2.cell? p=Y1.cell? p:=λp hp=>by
  exact Eo
 have cD:=ce _ _ _ Gk de;have r0:=cD.cell 0;have r1:=cD.cell 1;have r2:=cD.cell 2;obtain⟨d0,d1,d2,d3,-⟩:=dH.four;have eN:=Zb ((cN _ _ _ _ o).offZ cd bQ cS);have ib:=Zb ((cN _ _ _ _ h).offZ cd bQ cS);have ip:=Zb (Fr.keep (Fr.keep J dG) bQ);clear cN dG cS bQ ce o h J;go_wp2_with fail;(try rw[aK]);go_simp;(try rw[bK]);refine bodyPost_ret (v:=.tuple #[.agg #[.int .i64 10,.slice fA 10 fc,.slice fB 10 fd],.agg #[.bool sn,.slice sA sk sc,.bool sm,.slice sB sj sd],.int .i64 0]) (by simp[results,Tryz.results7,go_sem,r0,r1,r2,d0,d1,d2,d3]) rfl ?_;exact Ie
theorem Zca(x y:Int)(w:World)(hx1:-9223372036854775808<=x)(hx2:x<=9223372036854775807)(h0:0<y)(hy:y<=9223372036854775807) :
    Calls Tryz.prog 9 #[.int .i64 x,.int .i64 y] w (Ze9 w (Rat.divInt x y)):=by
 obtain⟨W0,U,C,q0,s0⟩:=Zbp w 32 #[.bool false,.slice none 0 0,.bool false,.slice none 0 0];obtain⟨gR,f⟩:=Gz w.heap.size;rw[f]at q0;go_in;go_wp2_with fail;(try rw[U]);(try rw[f]);rw[f]at C s0;refine(rOf_pos x y W0 hx1 hx2 h0 hy).mono ?_;rintro e w1 ⟨I,pn,pA,pk,pc,pm,pB,pj,pd,rfl,hf⟩;obtain⟨g1,u⟩:=Gz w1.heap.size;obtain⟨V1,J,qv,E⟩:=Zz (w:=w1) 32 #[.bool pn,.slice pA pk pc,.bool pm,.slice pB pj pd];rw[u]at qv;have h:=Gs I E;have q1:=Zc h q0;have O:=Zb (hf.below E);obtain⟨v0,v1,v2,v3,-⟩:=qv.four;obtain⟨c0,c1,c2,c3,z0,z1,z2,z3⟩:=q1.four;clear hf;replace f:=Zb f;go_wp2_with fail;(try rw[u]);(try rw[J]);obtain⟨W5,Y,q5,o,s5⟩:=Zec pn pA pk pc pm pB pj pd q1;go_wp2_with fail;(try rw[Y]);obtain⟨r0,r1,r2,r3,-⟩:=q5.four;refine bodyPost_ret (v:=.agg #[.bool pn,.slice pA pk pc,.bool pm,.slice pB pj pd]) (by simp[results,Tryz.results9,go_sem,r0,r1,r2,r3]) rfl ?_;refine⟨?_,_,_,_,_,_,_,_,_,rfl,O.out.keptV o q1 (Zan _ _ _ _ _ _ _ _)⟩;rw[f.out];exact C.trans ((h.mono Gk).trans (o.to_below (λk e=>by omega) (by have:=h.size;omega)))
def Zd2(xi eta:Int):List PE:=[⟨0,0,5,1,1⟩,⟨1,0,7,1,1⟩,⟨0,1,5,4,1⟩,⟨1,1,xi,eta,1⟩]
theorem Zt8{w:World}{g:Nat}{t:TypeId}{xi eta:Int}(h:Blk w g t #[.int .i64 0,.int .i64 0,.int .i64 5,.int .i64 1,.int .i64 1,.int .i64 1,.int .i64 0,.int .i64 7,.int .i64 1,.int .i64 1,.int .i64 0,.int .i64 1,.int .i64 5,.int .i64 4,.int .i64 1,.int .i64 1,.int .i64 1,.int .i64 xi,.int .i64 eta,.int .i64 1]):PaL w (some ⟨g,0,none⟩) 4 4 (Zd2 xi eta):=
 ⟨rfl,Qe _,by decide,λ_=>⟨g,0,rfl,λk p hk=>by
  have e:k<4:=(List.getElem?_eq_some_iff.1 hk).1;have hc:k=0 \/ k=1 \/ k=2 \/ k=3:=Gk;unfold Zd2 at hk;rcases hc with rfl|rfl|rfl|rfl
  all_goals
   simp only[List.getElem?_cons_zero,List.getElem?_cons_succ,Option.some.injEq]at hk;subst hk;exact⟨h.cell _,h.cell _,h.cell _,h.cell _,h.cell _⟩⟩⟩
theorem Zpf(xi eta:Int)(w:World) :
    Calls Tryz.prog 10 #[.int .i64 xi,.int .i64 eta] w λe w'=>Below w.heap.size w w'/\∃ g,e=.returned (.slice (some ⟨g,0,none⟩) 4 4)/\PaL w' (some ⟨g,0,none⟩) 4 4 (Zd2 xi eta):=by
 obtain⟨V,hV,q,hb⟩:=Zz (w:=w) 24 #[.int .i64 0,.int .i64 0,.int .i64 5,.int .i64 1,.int .i64 1,.int .i64 1,.int .i64 0,.int .i64 7,.int .i64 1,.int .i64 1,.int .i64 0,.int .i64 1,.int .i64 5,.int .i64 4,.int .i64 1,.int .i64 1,.int .i64 1,.int .i64 xi,.int .i64 eta,.int .i64 1];have hp:=Zt8 q;replace hp:=Zb hp;replace hb:=Zb hb;clear q;go_in;go_wp2_with fail;(try rw[hV]);(try go_ret);exact⟨hb.out,_,rfl,hp.out⟩
theorem Zej(T:Int)(X E X' E':Option Addr)(n m c d c' d':Nat)(ls ms:List DF)(w:World)(hX:XL w X n c ls)(hE:XL w E m d ms)(u:XL w X' n c' ls)(o:XL w E' m d' ms) :
    Calls Tryz.prog 20 #[.agg #[.int .i64 T,.slice X n c,.slice E m d],.agg #[.int .i64 T,.slice X' n c',.slice E' m d']] w λe w'=>e=.returned (.bool true)/\Below w.heap.size w w':=by
 obtain⟨W0,I,f,⟨q0,q1⟩,s0⟩:=Zcs w 27 #[.int .i64 T,.slice X n c,.slice E m d] 27 #[.int .i64 T,.slice X' n c',.slice E' m d'];replace hX:=Zb (hX.below f);replace hE:=Zb (hE.below f);replace u:=Zb (u.below f);replace o:=Zb (o.below f);replace f:=Zb f;clear s0;obtain⟨x0,x1,x2⟩:W0.cell? ⟨w.heap.size,0,none⟩=some (.int .i64 T)/\W0.cell? ⟨w.heap.size,1,none⟩=some (.slice X n c)/\W0.cell? ⟨w.heap.size,2,none⟩=some (.slice E m d):=⟨q0.cell 0,q0.cell 1,q0.cell 2⟩;obtain⟨y0,y1,y2⟩:W0.cell? ⟨w.heap.size+1,0,none⟩=some (.int .i64 T)/\W0.cell? ⟨w.heap.size+1,1,none⟩=some (.slice X' n c')/\W0.cell? ⟨w.heap.size+1,2,none⟩=some (.slice E' m d'):=⟨q1.cell 0,q1.cell 1,q1.cell 2⟩;replace q0:=Zb q0;replace q1:=Zb q1;go_in;go_wp2_with fail;(try rw[I]);clear I;refine(Zip X X' n c c' ls W0 hX.out u.out).mono ?_;rintro e w1 ⟨rfl,h⟩;replace q0:=Gm h q0;replace q1:=Gm h q1;replace hE:=Zb (hE.out.below h);replace o:=Zb (o.out.below h);replace f:=Gn f h;clear h x0 x1 x2 y0 y1 y2 hX u;have x2:w1.cell? ⟨w.heap.size,2,none⟩=some (.slice E m d):=q0.out.cell 2;have y2:w1.cell? ⟨w.heap.size+1,2,none⟩=some (.slice E' m d'):=q1.out.cell 2;go_wp2_with fail;refine(Zip E E' m d d' ms w1 hE.out o.out).mono ?_;rintro e w2 ⟨rfl,C⟩;replace f:=Gn f C;clear C x2 y2;go_wp2_with fail;go_ret;exact⟨rfl,f.out⟩
def colL(rs:List RI)(k n:Nat):List Int:=(Qd n).map λr=>Z7 rs k r
section
variable{rs:List RI}{ws:List Int}{n:Nat}
end
theorem lt_plus{a s:Rat}(h:0<=s)(h0:s≠0):a<a+s:=by grind
theorem Zs5(a:Rat):0<=a*a:=by
 rcases Rat.le_total (a:=0) (b:=a)with h|h;exact Qq h h;have:a*a=(-a)*(-a):=by grind
 rw[this];have h1:0 <= -a:=by grind
 exact Qq h1 h1
theorem sq_zero{a:Rat}(h:a*a=0):a=0:=by
 rcases Rat.mul_eq_zero.1 h with h|h <;> exact h
section
variable{rs:List RI}{rr ws:List Int}{n m:Nat}
theorem w_pos(hE:Zdv rs rr ws=0){r:Nat}(hr:r<rs.length):(0:Rat)<(Zau ws r:Rat):=by
 obtain⟨f1,f2,f3,f4,f5,f6,f7,f8⟩:=Zem hE
 have h:1<=Zau ws r:=by
  unfold Zau;rw[Qc Gk,Option.getD_some];unfold Zfw at f6;rw[List.any_eq_false]at f6;have:=f6 _ (Qv (l:=ws) (n:=r) Gk);unfold Zks at this;simp only[Bool.or_eq_true,decide_eq_true_eq,not_or]at this;omega
 have:(0:Int)<Zau ws r:=Gk
 exact_mod_cast this
theorem Zk7(hE:Zdv rs rr ws=0){r:Nat}(hr:r<rs.length)(a:Rat):0<=a*a*(Zau ws r:Rat):=Qq (Zs5 a) (Rat.le_of_lt (w_pos hE hr))
theorem Zwh(hE:Zdv rs rr ws=0){r:Nat}(hr:r<rs.length){a:Rat}(h:a*a*(Zau ws r:Rat)=0):a=0:=by
 rcases Rat.mul_eq_zero.1 h with h|h;exact sq_zero h;have:=w_pos hE hr;rw[h]at this;exact absurd this Gi
theorem Zug{x y:Nat->Rat}(hN:Zdw rs rr ws x n m):Zcr rs rr ws y m n=Zcr rs rr ws x m n+sumQ n (λr=>sumQ m (λk=>(Z7 rs k r:Rat)*(y k-x k))*sumQ m (λk=>(Z7 rs k r:Rat)*(y k-x k))*(Zau ws r:Rat)):=by
 have hd:∀ r,Zbs rs rr y m r=Zbs rs rr x m r-sumQ m (λk=>(Z7 rs k r:Rat)*(y k-x k)):=λr=>by
  unfold Zbs
  have:sumQ m (λk=>(Z7 rs k r:Rat)*(y k-x k))=sumQ m (λk=>(Z7 rs k r:Rat)*y k)-sumQ m (λk=>(Z7 rs k r:Rat)*x k):=by
   rw[<- Zln];exact Zx λk _=>by grind
  rw[this]
  grind
 have ho:sumQ n (λr=>Zbs rs rr x m r*sumQ m (λk=>(Z7 rs k r:Rat)*(y k-x k))*(Zau ws r:Rat))=0:=by
  have e1:sumQ n (λr=>Zbs rs rr x m r*sumQ m (λk=>(Z7 rs k r:Rat)*(y k-x k))*(Zau ws r:Rat))=sumQ n (λr=>sumQ m (λk=>(Zau ws r:Rat)*(Zbs rs rr x m r*(Z7 rs k r:Rat))*(y k-x k))):=Zx λr _=>by
   have:sumQ m (λk=>(Zau ws r:Rat)*(Zbs rs rr x m r*(Z7 rs k r:Rat))*(y k-x k))=sumQ m (λk=>(Z7 rs k r:Rat)*(y k-x k))*((Zau ws r:Rat)*Zbs rs rr x m r):=by
    rw[<- Zf5];exact Zx λk _=>by grind
   rw[this]
   grind
  rw[e1,Zjb];exact Zd4 λk hk=>by rw[Zf5,Zvk hN hk];grind
 have e2:Zcr rs rr ws y m n=sumQ n (λr=>Zbs rs rr x m r*Zbs rs rr x m r*(Zau ws r:Rat)+sumQ m (λk=>(Z7 rs k r:Rat)*(y k-x k))*sumQ m (λk=>(Z7 rs k r:Rat)*(y k-x k))*(Zau ws r:Rat)-Zbs rs rr x m r*sumQ m (λk=>(Z7 rs k r:Rat)*(y k-x k))*(Zau ws r:Rat)*2):=Zx λr _=>by
  rw[hd r]
  grind
 rw[e2,Zln,Zvu,Zf5,ho];unfold Zcr
 grind
theorem Zm7{x y:Nat->Rat}(hE:Zdv rs rr ws=0)(hn:rs.length=n)(hN:Zdw rs rr ws x n m)(hd:Zas m (Zeh rs ws n)≠0)(hne:∃ k,k<m/\y k≠x k):Zcr rs rr ws x m n<Zcr rs rr ws y m n:=by
 rw[Zug (y:=y) hN];have hp:0<=sumQ n (λr=>sumQ m (λk=>(Z7 rs k r:Rat)*(y k-x k))*sumQ m (λk=>(Z7 rs k r:Rat)*(y k-x k))*(Zau ws r:Rat)):=Zjn λr hr=>Zk7 hE Gk _
 have h0:sumQ n (λr=>sumQ m (λk=>(Z7 rs k r:Rat)*(y k-x k))*sumQ m (λk=>(Z7 rs k r:Rat)*(y k-x k))*(Zau ws r:Rat))≠0:=λh0=>by
  obtain⟨k,hk,f⟩:=hne;have hz:∀ r,r<n->sumQ m (λk=>(Z7 rs k r:Rat)*(y k-x k))=0:=λr hr=>Zwh hE Gk (Zmg (λr hr=>Zk7 hE Gk _) h0 r hr)
  have hG:∀ i,i<m->sumQ m (λj=>Zeh rs ws n i j*(y j-x j))=0:=λi hi=>by
   have e1:sumQ m (λj=>Zeh rs ws n i j*(y j-x j))=sumQ m (λj=>sumQ n (λr=>(Zau ws r:Rat)*((Z7 rs i r:Rat)*(Z7 rs j r:Rat))*(y j-x j))):=Zx λj _=>by
    unfold Zeh;rw[Zf5,Zkn]
   rw[e1,<- Zjb];refine Zd4 λr hr=>?_
   have e2:sumQ m (λj=>(Zau ws r:Rat)*((Z7 rs i r:Rat)*(Z7 rs j r:Rat))*(y j-x j))=sumQ m (λk=>(Z7 rs k r:Rat)*(y k-x k))*((Zau ws r:Rat)*(Z7 rs i r:Rat)):=by
    rw[<- Zf5];exact Zx λj _=>by grind
   rw[e2,hz r hr]
   grind
  have hc:=Zoe (Zeh rs ws n) (λj=>y j-x j) (λ_=>0) hG hk
  have e:Zas m (λa b=>if b=k then (0:Rat)else Zeh rs ws n a b)=0:=by
   have h5:=Zoe (Zeh rs ws n) (λ_=>0) (λ_=>0) (λi hi=>Zd4 λj _=>by grind) hk;rw[<- h5]
   grind
  rw[e]at hc;rcases Rat.mul_eq_zero.1 hc with h|h;exact hd h;exact f (by grind)
 exact lt_plus hp h0
end
theorem Zjl{rs:List RI}{rr ws:List Int}{n m:Nat}{x y:Nat->Rat}(hE:Zdv rs rr ws=0)(hn:rs.length=n)(hx:Zdw rs rr ws x n m)(hy:Zdw rs rr ws y n m)(hd:Zas m (Zeh rs ws n)≠0):∀ k,k<m->x k=y k:=λk hk=>by
 apply Classical.byContradiction;intro f;have h1:=Zm7 hE hn hx hd ⟨k,hk,λe=>f e.symm⟩;have h2:=Zm7 hE hn hy hd ⟨k,hk,λe=>f e⟩
 grind
theorem Zms{n:Nat}{f g:Nat->Rat}(h:∀ i,i<n->f i=g i):sumQ n f=sumQ n g:=by
 induction n with
 | zero=>rfl
 | succ n ih=>simp only[sumQ];rw[ih λi hi=>h i Gk,h n Gk]
theorem Znb{rs:List RI}{rr ws:List Int}{m t:Nat}{x y:Nat->Rat}(h:∀ k,k<m->x k=y k):Zcr rs rr ws x m t=Zcr rs rr ws y m t:=by
 unfold Zcr;refine Zms λr _=>?_
 have:Zbs rs rr x m r=Zbs rs rr y m r:=by
  unfold Zbs;rw[Zms (f:=λk=>(Z7 rs k r:Rat)*x k) (g:=λk=>(Z7 rs k r:Rat)*y k) (λk hk=>by rw[h k hk])]
 rw[this]
theorem Zpo{x y:Nat->Rat}{m:Nat}(h:∀ k,k<m->x k=y k):(Qd m).map x=(Qd m).map y:=
 List.map_congr_left λk hk=>h k (List.mem_range.1 hk)
theorem psR_sys{ps:List PE}{T:Nat}(hk:ps.all Zc4=true)(h0:0<ps.length)(hn:ps.length<=200)(hT0:0<T)(hT:T<=10):Zdv (psR ps T) (xiL ps) (wtL ps)=0/\Zdv (psR ps T) (etL ps) (wtL ps)=0:=
 ⟨likeP_psR.sys (f:=PE.xi) hk h0 hn hT0 hT (λ_ hp=>(Zb9 hp).2.2.1),likeP_psR.sys (f:=PE.eta) hk h0 hn hT0 hT (λ_ hp=>(Zb9 hp).2.2.2.1)⟩
theorem Zsk(ps:List PE)(T:Nat):(psR ps T).length=ps.length:=by simp[psR]
theorem FitR.eq{ps:List PE}{T:Nat}{x z u v:Nat->Rat}(h:FitR ps T x z)(hk:ps.all Zc4=true)(h0:0<ps.length)(hn:ps.length<=200)(hT0:0<T)(hT:T<=10)(hd:Zas T (Zeh (psR ps T) (wtL ps) ps.length)≠0)
    (hu:Zdw (psR ps T) (xiL ps) (wtL ps) u ps.length T) (hv:Zdw (psR ps T) (etL ps) (wtL ps) v ps.length T) :
    (Qd T).map x=(Qd T).map u/\(Qd T).map z=(Qd T).map v/\fitS ps T x z=fitS ps T u v:=by
 obtain⟨s1,s2⟩:=psR_sys hk h0 hn hT0 hT;have e1:=Zjl s1 (Zsk _ _) h.nx hu hd;have e2:=Zjl s2 (Zsk _ _) h.nz hv hd;refine⟨Zpo e1,Zpo e2,?_⟩;unfold fitS;rw[Znb e1,Znb e2]
def vecF(a b c:Rat):Nat->Rat:=λk=>if k=0 then a else if k=1 then b else c
instance (rs:List RI) (rr ws:List Int) (x:Nat->Rat) (n m:Nat):Decidable (Zdw rs rr ws x n m):=by unfold Zdw;infer_instance
theorem Ik{G:Prop}(h:G:=by
 refine⟨h1.trans Gd,h2.trans Gd,h3.trans Gd⟩):G:=h
theorem fit7{x z:Nat->Rat}(h:FitR (Zd2 7 4) 3 x z):(Qd 3).map x=[5,2,0]/\(Qd 3).map z=[1,0,3]/\fitS (Zd2 7 4) 3 x z=0:=by
 obtain⟨h1,h2,h3⟩:=h.eq (u:=vecF 5 2 0) (v:=vecF 1 0 3) Gi Gi Gi Gi Gi Gd Gd Gd;exact Ik
theorem fit8{x z:Nat->Rat}(h:FitR (Zd2 8 4) 3 x z):(Qd 3).map x=[19/4,5/2,1/2]/\(Qd 3).map z=[1,0,3]/\fitS (Zd2 8 4) 3 x z=1/4:=by
 obtain⟨h1,h2,h3⟩:=h.eq (u:=vecF (19/4) (5/2) (1/2)) (v:=vecF 1 0 3) Gi Gi Gi Gi Gi Gd Gd Gd;exact Ik
theorem det7:Zas 3 (Zeh (psR (Zd2 7 4) 3) (wtL (Zd2 7 4)) 4)≠0:=by decide +kernel
theorem det8:Zas 3 (Zeh (psR (Zd2 8 4) 3) (wtL (Zd2 8 4)) 4)≠0:=by decide +kernel
theorem inv7:Zb3 [5,2,0] [1,0,3]≠0/\(Zby [5,2,0] [1,0,3]++Za3 [5,2,0] [1,0,3]).all Zac=true/\Zby [5,2,0] [1,0,3]=[-5/2,1/2,0]/\Za3 [5,2,0] [1,0,3]=[-1/3,0,1/3]:=by decide +kernel
@[local go_sem] theorem run_store_fn77 {P:Program} {w:World} {a:Addr} {m:Mode} (f:Fn) (x:Array Value) (y:Array Value):(store a (.func f x y) m).run P w=stored P w a (.func f x y) m:=run_store P w a _ m rfl
theorem cmpQ_eq77{a b:Rat}:Zqk a b=0 ↔ a=b:=by
 unfold Zqk;by_cases h:a=b;simp[h];constructor
 ·intro h1
  exfalso
  split at h1
  exact absurd h1 Gi
  split at h1
  exact absurd h1 Gi;rename_i h2 h3;exact h (Rat.le_antisymm (Rat.not_lt.1 h3) (Rat.not_lt.1 h2))
 intro h1;exact absurd h1 h
def InvR(qs rs:List Rat)(n0:Nat)(w:World)(e:Ending)(w':World):Prop:=Below n0 w w' /\
 if Zb3 qs rs=0 then e=.returned (.tuple #[.agg #[.int .i64 0,.slice none 0 0,.slice none 0 0],.int .i64 18])
 else if (Zby qs rs++Za3 qs rs).all Zac=true then ∃ A c B d,e=.returned (.tuple #[.agg #[.int .i64 3,.slice A 3 c,.slice B 3 d],.int .i64 0])/\FL w' A 3 c (Zby qs rs)/\FL w' B 3 d (Za3 qs rs)
 else e=.returned (.tuple #[.agg #[.int .i64 0,.slice none 0 0,.slice none 0 0],.int .i64 16])
theorem FA{G:Prop}(h:G:=by
 rintro e w5 ⟨ao,fA,fc,rfl,aw⟩;exact hK.out _ _ ⟨_,rfl,(by simp only[Zb2];exact⟨_,_,rfl,aw⟩),ao,trivial⟩):G:=h
theorem Fy{G:Prop}(h:G:=by
 go_simp;exact hK.out _ _ ⟨_,rfl,(by simp only[Zb2];exact⟨_,rfl,hb.size,Blk.new _ _ _⟩),(Below.refl _ _).alloc (Nat.le_refl _) _,trivial⟩):G:=h
theorem En{G:Prop}(h:G:=by
 rintro e w5 ⟨ao,fn,fA,fk,fc,fm,fB,fj,fd,rfl,aw⟩;exact hK.out _ _ ⟨_,rfl,(by simp only[Zb2];exact⟨_,_,_,_,_,_,_,_,rfl,aw⟩),ao,trivial⟩):G:=h
theorem Zj7(X E:Option Addr)(c d:Nat)(qs rs:List Rat)(w:World)(hX:FL w X 3 c qs)(hE:FL w E 3 d rs)(hq:qs.all Zac=true)(hr:rs.all Zac=true) :
    Calls Tryz.prog 12 #[.agg #[.int .i64 3,.slice X 3 c,.slice E 3 d]] w (InvR qs rs w.heap.size w):=by
 have hmx:=Gt;obtain⟨W0,n4,i7,⟨q0,q1⟩,s0⟩:=Zcs w 27 #[.int .i64 3,.slice X 3 c,.slice E 3 d] 27 #[.int .i64 0,.slice none 0 0,.slice none 0 0];have r7:(qs++rs).all Zac=true:=by rw[List.all_append,hq,hr];rfl
 have e7:=Zb (hX.below i7);have e6:=Zb (hE.below i7);replace q0:=Zb q0;replace q1:=Zb q1;replace i7:=Zb i7;clear s0 hX hE;go_in;obtain⟨x0,x1,x2⟩:W0.cell? ⟨w.heap.size,0,none⟩=some (.int .i64 3)/\W0.cell? ⟨w.heap.size,1,none⟩=some (.slice X 3 c)/\W0.cell? ⟨w.heap.size,2,none⟩=some (.slice E 3 d):=⟨q0.out.cell 0,q0.out.cell 1,q0.out.cell 2⟩;go_wp2_with fail;(try rw[n4]);clear n4;refine(Znh X E c d qs rs W0 e7.out e6.out).mono ?_;rintro e w1 ⟨rfl,j1⟩;replace e7:=Zb (e7.out.below j1);replace e6:=Zb (e6.out.below j1);replace q0:=Gm j1 q0;replace q1:=Gm j1 q1;have m0:=Gn i7 j1;clear i7 j1;rw[Gx r7];clear x0 x1 x2;obtain⟨x0,x1,x2⟩:w1.cell? ⟨w.heap.size,0,none⟩=some (.int .i64 3)/\w1.cell? ⟨w.heap.size,1,none⟩=some (.slice X 3 c)/\w1.cell? ⟨w.heap.size,2,none⟩=some (.slice E 3 d):=⟨q0.out.cell 0,q0.out.cell 1,q0.out.cell 2⟩;obtain⟨g3,l3⟩:=Gz w1.heap.size;obtain⟨V5,p9,q7,j0⟩:=Zz (w:=w1) 70 #[.int .i64 0];rw[l3]at q7;replace e7:=Zb (e7.out.below j0);replace e6:=Zb (e6.out.below j0);replace q0:=Gm j0 q0;replace q1:=Gm j0 q1;have m2:=Gn m0 j0;clear m0 j0;replace q7:=Zb q7;go_wp2_with fail;(try rw[l3]);(try rw[p9]);clear p9;replace l3:=Zb l3;clear x0 x1 x2;obtain⟨gX,oX,xn,xA,xk,xc,xm,xB,xj,xd,eX,q5,f4⟩:=e7.out.at_ (k:=1) Gi
 obtain⟨y2,z0,yn,yA,yk,yc,ym,yB,yj,yd,r6,q6,f5⟩:=e7.out.at_ (k:=2) Gi;obtain⟨gE,oE,un,uA,uk,uc,um,uB,uj,ud,eE,s1,f6⟩:=e6.out.at_ (k:=1) Gi;obtain⟨y7,y4,vn,vA,vk,vc,vm,vB,vj,vd,r9,s3,f7⟩:=e6.out.at_ (k:=2) Gi;subst eX;subst eE;cases r6;cases r9;have cX:=e7.out.cap;have cE:=e6.out.cap;replace f4:=Zb f4;replace f5:=Zb f5;replace f6:=Zb f6;replace f7:=Zb f7;obtain⟨c8,c6,c9,b0⟩:=q5;replace c8:V5.cell? ⟨gX,oX+4,none⟩=some (.bool xn):=by simpa [Qa]using c8
 replace c6:V5.cell? ⟨gX,oX+5,none⟩=some (.slice xA xk xc):=by simpa [Qa]using c6
 replace c9:V5.cell? ⟨gX,oX+6,none⟩=some (.bool xm):=by simpa [Qa]using c9
 replace b0:V5.cell? ⟨gX,oX+7,none⟩=some (.slice xB xj xd):=by simpa [Qa]using b0
 obtain⟨b7,Y,a0,d5⟩:=q6;replace b7:V5.cell? ⟨gX,oX+8,none⟩=some (.bool yn):=by simpa [Qa]using b7
 replace Y:V5.cell? ⟨gX,oX+9,none⟩=some (.slice yA yk yc):=by simpa [Qa]using Y
 replace a0:V5.cell? ⟨gX,oX+10,none⟩=some (.bool ym):=by simpa [Qa]using a0
 replace d5:V5.cell? ⟨gX,oX+11,none⟩=some (.slice yB yj yd):=by simpa [Qa]using d5
 obtain⟨d3,b6,b3,c5⟩:=s1;replace d3:V5.cell? ⟨gE,oE+4,none⟩=some (.bool un):=by simpa [Qa]using d3
 replace b6:V5.cell? ⟨gE,oE+5,none⟩=some (.slice uA uk uc):=by simpa [Qa]using b6
 replace b3:V5.cell? ⟨gE,oE+6,none⟩=some (.bool um):=by simpa [Qa]using b3
 replace c5:V5.cell? ⟨gE,oE+7,none⟩=some (.slice uB uj ud):=by simpa [Qa]using c5
 obtain⟨d4,d0,c4,c7⟩:=s3;replace d4:V5.cell? ⟨gE,oE+8,none⟩=some (.bool vn):=by simpa [Qa]using d4
 replace d0:V5.cell? ⟨gE,oE+9,none⟩=some (.slice vA vk vc):=by simpa [Qa]using d0
 replace c4:V5.cell? ⟨gE,oE+10,none⟩=some (.bool vm):=by simpa [Qa]using c4
 replace c7:V5.cell? ⟨gE,oE+11,none⟩=some (.slice vB vj vd):=by simpa [Qa]using c7
 have d7:V5.cell? ⟨w.heap.size,0,none⟩=some (.int .i64 3):=q0.out.cell 0;have d8:V5.cell? ⟨w.heap.size,1,none⟩=some (.slice (some ⟨gX,oX,none⟩) 3 c):=q0.out.cell 1;have d9:V5.cell? ⟨w.heap.size,2,none⟩=some (.slice (some ⟨gE,oE,none⟩) 3 d):=q0.out.cell 2;have sx:=(Zam hq 1).sm Gi Gi;have sy:=(Zam hq 2).sm Gi Gi;have su:=(Zam hr 1).sm Gi Gi;have sv:=(Zam hr 2).sm Gi Gi;have sxv:=((Zam hq 1).mul (Zam hr 2)).sm Gi Gi;have syu:=((Zam hq 2).mul (Zam hr 1)).sm Gi Gi
 have i4:Hid (∀ wx,Below V5.heap.size V5 wx->(wx.cell? ⟨w.heap.size,0,none⟩=some (.int .i64 3))/\(wx.cell? ⟨w.heap.size,1,none⟩=some (.slice (some ⟨gX,oX,none⟩) 3 c))/\(wx.cell? ⟨w.heap.size,2,none⟩=some (.slice (some ⟨gE,oE,none⟩) 3 d))/\(wx.cell? ⟨gX,oX+4,none⟩=some (.bool xn))/\(wx.cell? ⟨gX,oX+5,none⟩=some (.slice xA xk xc))/\(wx.cell? ⟨gX,oX+6,none⟩=some (.bool xm))/\(wx.cell? ⟨gX,oX+7,none⟩=some (.slice xB xj xd))/\(wx.cell? ⟨gX,oX+8,none⟩=some (.bool yn))/\(wx.cell? ⟨gX,oX+9,none⟩=some (.slice yA yk yc))/\(wx.cell? ⟨gX,oX+10,none⟩=some (.bool ym))/\(wx.cell? ⟨gX,oX+11,none⟩=some (.slice yB yj yd))/\(wx.cell? ⟨gE,oE+4,none⟩=some (.bool un))/\(wx.cell? ⟨gE,oE+5,none⟩=some (.slice uA uk uc))/\(wx.cell? ⟨gE,oE+6,none⟩=some (.bool um))/\(wx.cell? ⟨gE,oE+7,none⟩=some (.slice uB uj ud))/\(wx.cell? ⟨gE,oE+8,none⟩=some (.bool vn))/\(wx.cell? ⟨gE,oE+9,none⟩=some (.slice vA vk vc))/\(wx.cell? ⟨gE,oE+10,none⟩=some (.bool vm))/\(wx.cell? ⟨gE,oE+11,none⟩=some (.slice vB vj vd))):=Zb (λwx f=>⟨Za f d7,Za f d8,Za f d9,Za f c8,Za f c6,Za f c9,Za f b0,Za f b7,Za f Y,Za f a0,Za f d5,Za f d3,Za f b6,Za f b3,Za f c5,Za f d4,Za f d0,Za f c4,Za f c7⟩);have g0:Below V5.heap.size V5 V5.drew:=Zg (Qg _ _) 1;refine wp_heldS [] hmx i4 g0 (λhxs1=>?_);refine Zin 16 [0,1,2,3,4,5,6,7,9,10,11,12,13,14,15,16] rfl Gj (i4.out _ g0) ?_
 iterate 16 (refine tkA ?_;try simp only[Qb,Zf6,Zfl,Zfx,Gr,Gq,Gp])
 refine tk0 ?_;refine Zbk [(8,28),(17,37),(18,38),(19,6)] (λ_=>[]) [(8,28),(17,37),(18,38),(19,6)] (Zb2 [(8,frV (qs[1]?.getD 0*rs[2]?.getD 0)),(17,frV (qs[2]?.getD 0*rs[1]?.getD 0)),(18,frV (Zb3 qs rs)),(19,newV V5.heap.size 32 #[.bool false,.slice none 0 0,.bool false,.slice none 0 0])]) 1 Gj (λp _=>Zh8 (Za1 Zdl (Za1 Zdl (Za1 Zdl (Za1 Zhv Zjg)))) p.1) (λwx h=>i4.out _ (Gs g0 h)) ?hop1 ?hfin1
 case hop1 =>
  intro p hp;simp only[Qr,Qo,or_false]at hp;simp only[Qh,Qk,Zaj,Qb,Zf6,Zfl,Zfx];rcases hp with rfl|rfl|rfl|rfl
  ·intro ν wx hb hP
   have f:=Gs g0 hb;refine Zj (i:=8) rfl (λK hK=>?_);go_simp;refine(Zew g3 xn xm vn vm xA xB vA vB xk xc xj xd vk vc vj vd (qs[1]?.getD 0) (rs[2]?.getD 0) wx (Zc f q7.out) (f4.out.below f) (f7.out.below f) sx sv).mono ?_;exact En
  ·intro ν wx hb hP
   have f:=Gs g0 hb;refine Zj (i:=17) rfl (λK hK=>?_);go_simp;refine(Zew g3 yn ym un um yA yB uA uB yk yc yj yd uk uc uj ud (qs[2]?.getD 0) (rs[1]?.getD 0) wx (Zc f q7.out) (f5.out.below f) (f6.out.below f) sy su).mono ?_;exact En
  ·intro ν wx hb hP
   have f:=Gs g0 hb;have h8:=hP (8,28) Gh Gj;simp only[Zb2]at h8;obtain⟨q8,s6,s8,s4,r3,s2,s7,r5,hν8,r4⟩:=h8;rw[hν8];have k9:=hP (17,37) Gh Gj;simp only[Zb2]at k9;obtain⟨m9,p7,n0,p0,n9,m8,o7,m7,hν17,p1⟩:=k9;rw[hν17];refine Zj (i:=18) rfl (λK hK=>?_);go_simp;refine(Zsv g3 q8 r3 m9 n9 s6 s2 p7 m8 s8 s4 s7 r5 n0 p0 o7 m7 _ _ wx (Zc f q7.out) r4 p1 sxv syu).mono ?_;exact En
  intro ν wx hb hP;have f:=Gs g0 hb;refine Zj (i:=19) rfl (λK hK=>?_);exact Fy
 case hfin1 =>
  intro ν wx hb hP;have h8:=hP (8,28) Gh;simp only[Zb2]at h8;obtain⟨z4,y5,y9,z3,y8,y3,y6,y1,hν8,-⟩:=h8;have k9:=hP (17,37) Gh;simp only[Zb2]at k9;obtain⟨t4,w9,s9,t7,v4,w4,t8,x7,hν17,-⟩:=k9;have i6:=hP (18,38) Gh;simp only[Zb2]at i6;obtain⟨g2,g5,h1,g8,h2,g7,g4,g6,hν18,l6⟩:=i6;have p2:=hP (19,6) Gh;simp only[Zb2]at p2;obtain⟨e8,hν19,l4,l0⟩:=p2;simp only[Qh,Qk,Zaj,Qb,Zf6,Zfl,Zfx];rw[hν8,hν17,hν18,hν19];clear hν8 hν17 hν18 hν19 hP ν;have f:=Gs g0 hb;have i1:=l0.four;have i8:V5.heap.size<=e8:=l4;refine(Zm g2 g5 h1 g8 h2 g7 g4 g6 f i8 l0).elim (λZ1 hq=>?_);have c0:=i1.1;have m1:=i1.2.1;have l9:=i1.2.2.1;have c3:=i1.2.2.2.1;have f0:=i1.2.2.2.2.1;have f1:=i1.2.2.2.2.2.1;have f2:=i1.2.2.2.2.2.2.1;have f3:=i1.2.2.2.2.2.2.2;have hZ:=hq.1;refine wpAnyL_o 20 λK hK=>?_;go_simp;(try rw[hZ]);refine hK.out _ _ (λ_=>i4.out _ hq.2.1) ?_;clear hK K
  try simp only[Qb,Zf6,Zfl,Zfx,Gr,Gq,Gp]
  refine wpAnyL_fin ?_;have u:=hq.2.1;have d6:=hq.2.2.1;have e1:=Fr.keep l6 hq.2.2.2.1;have q4:=Zb i8;clear hq hZ c0 m1 l9 c3 f0 f1 f2 f3 i1 l0 l4 i8 f hb g0 i4 hxs1 l6;replace e7:=Zb (e7.out.below u);replace e6:=Zb (e6.out.below u);replace q0:=Gm u q0;replace q1:=Gm u q1;replace q7:=Gm u q7;replace f4:=Zb (f4.out.below u);replace f5:=Zb (f5.out.below u);replace f6:=Zb (f6.out.below u);replace f7:=Zb (f7.out.below u);have j2:=Gn m2 u;clear m2;replace d7:=Za u d7;replace d8:=Za u d8;replace d9:=Za u d9;replace c8:=Za u c8;replace c6:=Za u c6;replace c9:=Za u c9;replace b0:=Za u b0;replace b7:=Za u b7;replace Y:=Za u Y;replace a0:=Za u a0;replace d5:=Za u d5;replace d3:=Za u d3;replace b6:=Za u b6;replace b3:=Za u b3;replace c5:=Za u c5;replace d4:=Za u d4;replace d0:=Za u d0;replace c4:=Za u c4;replace c7:=Za u c7;clear u;replace d6:=Zb d6;replace e1:=Zb e1;obtain⟨cv,k7⟩:=Gz (Zqk (Zb3 qs rs) (((0:Int)):Rat));replace k7:=Zb k7;have sdt:=Zb ((Zo4 hq hr).sm Gi Gi);clear sx sy su sv sxv syu;go_wp2_with fail;have e4:Z1.cell? ⟨e8,0,none⟩=some (.bool g2):=d6.out.cell 0
  have e3:Z1.cell? ⟨e8,1,none⟩=some (.slice g5 h1 g8):=d6.out.cell 1;have e2:Z1.cell? ⟨e8,2,none⟩=some (.bool h2):=d6.out.cell 2;have e5:Z1.cell? ⟨e8,3,none⟩=some (.slice g7 g4 g6):=d6.out.cell 3;have C:Below Z1.heap.size Z1 Z1.drew:=Zg (Qg _ _) 1;replace e7:=Zb (e7.out.below C);replace e6:=Zb (e6.out.below C);replace q0:=Gm C q0;replace q1:=Gm C q1;replace q7:=Gm C q7;replace f4:=Zb (f4.out.below C);replace f5:=Zb (f5.out.below C);replace f6:=Zb (f6.out.below C);replace f7:=Zb (f7.out.below C);replace d6:=Gm C d6;replace e1:=Zb (e1.out.below C);have j7:=Gn j2 C;clear j2;replace d7:=Za C d7;replace d8:=Za C d8;replace d9:=Za C d9;replace c8:=Za C c8;replace c6:=Za C c6;replace c9:=Za C c9;replace b0:=Za C b0;replace b7:=Za C b7;replace Y:=Za C Y;replace a0:=Za C a0;replace d5:=Za C d5;replace d3:=Za C d3;replace b6:=Za C b6;replace b3:=Za C b3;replace c5:=Za C c5;replace d4:=Za C d4;replace d0:=Za C d0;replace c4:=Za C c4;replace c7:=Za C c7;replace e4:=Za C e4;replace e3:=Za C e3;replace e2:=Za C e2;replace e5:=Za C e5;clear C
  refine Zad [] (λwx=>(wx.cell? ⟨w.heap.size,0,none⟩=some (.int .i64 3))/\(wx.cell? ⟨w.heap.size,1,none⟩=some (.slice (some ⟨gX,oX,none⟩) 3 c))/\(wx.cell? ⟨w.heap.size,2,none⟩=some (.slice (some ⟨gE,oE,none⟩) 3 d))/\(wx.cell? ⟨gX,oX+4,none⟩=some (.bool xn))/\(wx.cell? ⟨gX,oX+5,none⟩=some (.slice xA xk xc))/\(wx.cell? ⟨gX,oX+6,none⟩=some (.bool xm))/\(wx.cell? ⟨gX,oX+7,none⟩=some (.slice xB xj xd))/\(wx.cell? ⟨gX,oX+8,none⟩=some (.bool yn))/\(wx.cell? ⟨gX,oX+9,none⟩=some (.slice yA yk yc))/\(wx.cell? ⟨gX,oX+10,none⟩=some (.bool ym))/\(wx.cell? ⟨gX,oX+11,none⟩=some (.slice yB yj yd))/\(wx.cell? ⟨gE,oE+4,none⟩=some (.bool un))/\(wx.cell? ⟨gE,oE+5,none⟩=some (.slice uA uk uc))/\(wx.cell? ⟨gE,oE+6,none⟩=some (.bool um))/\(wx.cell? ⟨gE,oE+7,none⟩=some (.slice uB uj ud))/\(wx.cell? ⟨gE,oE+8,none⟩=some (.bool vn))/\(wx.cell? ⟨gE,oE+9,none⟩=some (.slice vA vk vc))/\(wx.cell? ⟨gE,oE+10,none⟩=some (.bool vm))/\(wx.cell? ⟨gE,oE+11,none⟩=some (.slice vB vj vd))/\(wx.cell? ⟨e8,0,none⟩=some (.bool g2))/\(wx.cell? ⟨e8,1,none⟩=some (.slice g5 h1 g8))/\(wx.cell? ⟨e8,2,none⟩=some (.bool h2))/\(wx.cell? ⟨e8,3,none⟩=some (.slice g7 g4 g6))) hmx ⟨d7,d8,d9,c8,c6,c9,b0,b7,Y,a0,d5,d3,b6,b3,c5,d4,d0,c4,c7,e4,e3,e2,e5⟩ (λ_=>?_);refine Zin 1 [0] rfl Gj ⟨d7,d8,d9,c8,c6,c9,b0,b7,Y,a0,d5,d3,b6,b3,c5,d4,d0,c4,c7,e4,e3,e2,e5⟩ ?_
  (refine tkA ?_;try simp only[Qb,Zf6,Zfl,Zfx,Gr,Gq,Gp])
  refine tk0 ?_;refine wpAnyL_o 1 λK hK=>?_
  (try rw[Gx Gj]);go_simp;refine(Zg0 0 Z1.drew Gi Gi).mono ?_;rintro e q9 ⟨O,zn,zA,zk,zc,zm,zB,zj,zd,rfl,zf⟩;replace e7:=Zb (e7.out.below O);replace e6:=Zb (e6.out.below O);replace q0:=Gm O q0;replace q1:=Gm O q1;replace q7:=Gm O q7;replace f4:=Zb (f4.out.below O);replace f5:=Zb (f5.out.below O);replace f6:=Zb (f6.out.below O);replace f7:=Zb (f7.out.below O);replace d6:=Gm O d6;replace e1:=Zb (e1.out.below O);have k8:=Gn j7 O;clear j7;replace d7:=Za O d7;replace d8:=Za O d8;replace d9:=Za O d9;replace c8:=Za O c8;replace c6:=Za O c6;replace c9:=Za O c9;replace b0:=Za O b0;replace b7:=Za O b7;replace Y:=Za O Y;replace a0:=Za O a0;replace d5:=Za O d5;replace d3:=Za O d3;replace b6:=Za O b6;replace b3:=Za O b3;replace c5:=Za O c5;replace d4:=Za O d4;replace d0:=Za O d0;replace c4:=Za O c4;replace c7:=Za O c7;replace e4:=Za O e4;replace e3:=Za O e3;replace e2:=Za O e2;replace e5:=Za O e5;clear O;refine hK.out _ _ (λ_=>⟨d7,d8,d9,c8,c6,c9,b0,b7,Y,a0,d5,d3,b6,b3,c5,d4,d0,c4,c7,e4,e3,e2,e5⟩) ?_;clear hK K
  try simp only[Qb,Zf6,Zfl,Zfx,Gr,Gq,Gp]
  replace zf:=Zb zf;refine wpAnyL_o 2 λK hK=>?_
  (try rw[Gx Gj]);go_simp;refine(Zow g3 g2 h2 zn zm g5 g7 zA zB h1 g8 g4 g6 zk zc zj zd (Zb3 qs rs) ((0:Int):Rat) q9 q7.out e1.out zf.out sdt.out Zla).mono ?_;rintro e l2 ⟨rfl,I⟩;replace e7:=Zb (e7.out.below I);replace e6:=Zb (e6.out.below I);replace q0:=Gm I q0;replace q1:=Gm I q1;replace q7:=Gm I q7;replace f4:=Zb (f4.out.below I);replace f5:=Zb (f5.out.below I);replace f6:=Zb (f6.out.below I);replace f7:=Zb (f7.out.below I);replace d6:=Gm I d6;replace e1:=Zb (e1.out.below I);replace zf:=Zb (zf.out.below I);have i9:=Gn k8 I;clear k8;replace d7:=Za I d7;replace d8:=Za I d8;replace d9:=Za I d9;replace c8:=Za I c8;replace c6:=Za I c6;replace c9:=Za I c9;replace b0:=Za I b0;replace b7:=Za I b7;replace Y:=Za I Y;replace a0:=Za I a0;replace d5:=Za I d5;replace d3:=Za I d3;replace b6:=Za I b6;replace b3:=Za I b3;replace c5:=Za I c5;replace d4:=Za I d4;replace d0:=Za I d0;replace c4:=Za I c4;replace c7:=Za I c7;replace e4:=Za I e4;replace e3:=Za I e3;replace e2:=Za I e2;replace e5:=Za I e5;clear I;rw[k7.out];refine hK.out _ _ (λ_=>⟨d7,d8,d9,c8,c6,c9,b0,b7,Y,a0,d5,d3,b6,b3,c5,d4,d0,c4,c7,e4,e3,e2,e5⟩) ?_;clear hK K
  try simp only[Qb,Zf6,Zfl,Zfx,Gr,Gq,Gp]
  refine Zfm 1 [3] rfl Gj ⟨d7,d8,d9,c8,c6,c9,b0,b7,Y,a0,d5,d3,b6,b3,c5,d4,d0,c4,c7,e4,e3,e2,e5⟩ ?_
  (refine tkA ?_;try simp only[Qb,Zf6,Zfl,Zfx,Gr,Gq,Gp])
  refine tk0 ?_;refine wpAnyL_fin ?_;clear zf;by_cases h0:cv=0
  ·subst h0
   have i3:Zb3 qs rs=0:=by have:=cmpQ_eq77.1 k7.out;simpa using this
   obtain⟨Z9,j5,i2,h3,-⟩:=Zbe 0 none 0 0 none 0 0 i9.out (Qi _) q1.out;have c0:=q1.out.cell 0;have c1:=q1.out.cell 1;have c2:=q1.out.cell 2;have f0:=q1.out.frozen 0;have f1:=q1.out.frozen 1;have f2:=q1.out.frozen 2;have r0:=h3.cell 0;have r1:=h3.cell 1;have r2:=h3.cell 2;go_wp2_with fail;(try rw[j5]);refine bodyPost_ret (v:=.tuple #[.agg #[.int .i64 0,.slice none 0 0,.slice none 0 0],.int .i64 18]) (by simp[results,Tryz.results12,go_sem,r0,r1,r2]) rfl ?_;exact⟨i2,by rw[Gx i3]⟩
  have i3:Zb3 qs rs≠0:=λh=>h0 (by rw[<- k7.out];exact cmpQ_eq77.2 (by simpa using h));have e0:(cv == (0:Int))=false:=by simpa using h0
  obtain⟨gF,j8⟩:=Gz l2.heap.size;obtain⟨VF,m6,k6,l8⟩:=Zz (w:=l2) 87 #[.nilFunc];rw[j8]at k6;obtain⟨UF,m5⟩:∃ U,VF.setCell ⟨gF,0,none⟩ (.func (.func 44) #[] #[.pointer (some ⟨g3,0,none⟩)])=U:=⟨_,rfl⟩;have qF:Blk (VF.setCell ⟨gF,0,none⟩ (.func (.func 44) #[] #[.pointer (some ⟨g3,0,none⟩)])) gF 87 #[.func (.func 44) #[] #[.pointer (some ⟨g3,0,none⟩)]]:=k6.set_ 0 (.func (.func 44) #[] #[.pointer (some ⟨g3,0,none⟩)]);have J:Below l2.heap.size l2 (VF.setCell ⟨gF,0,none⟩ (.func (.func 44) #[] #[.pointer (some ⟨g3,0,none⟩)])):=l8.setCell (p:=⟨gF,0,none⟩) (by rw[j8];exact Qe _) _;rw[m5]at qF J;have c0:VF.cell? ⟨gF,0,none⟩=some .nilFunc:=k6.cell 0;have f0:VF.frozen? ⟨gF,0,none⟩=false:=k6.frozen 0;replace e7:=Zb (e7.out.below J);replace e6:=Zb (e6.out.below J);replace q0:=Gm J q0;replace q1:=Gm J q1;replace q7:=Gm J q7;replace f4:=Zb (f4.out.below J);replace f5:=Zb (f5.out.below J);replace f6:=Zb (f6.out.below J);replace f7:=Zb (f7.out.below J);replace d6:=Gm J d6;replace e1:=Zb (e1.out.below J);have j4:=Gn i9 J;clear i9;replace d7:=Za J d7;replace d8:=Za J d8;replace d9:=Za J d9;replace c8:=Za J c8;replace c6:=Za J c6;replace c9:=Za J c9;replace b0:=Za J b0;replace b7:=Za J b7;replace Y:=Za J Y;replace a0:=Za J a0
  replace d5:=Za J d5;replace d3:=Za J d3;replace b6:=Za J b6;replace b3:=Za J b3;replace c5:=Za J c5;replace d4:=Za J d4;replace d0:=Za J d0;replace c4:=Za J c4;replace c7:=Za J c7;replace e4:=Za J e4;replace e3:=Za J e3;replace e2:=Za J e2;replace e5:=Za J e5;clear J l8 k6;go_wp2_with fail;(try rw[j8]);(try rw[m6]);clear m6;go_simp;(try rw[m5]);clear m5 c0 f0;replace j8:=Zb j8;replace qF:=Zb qF;have k5:UF.cell? ⟨gF,0,none⟩=some (.func (.func 44) #[] #[.pointer (some ⟨g3,0,none⟩)]):=qF.out.cell 0;obtain⟨a1,a2,a3,a4,a5,a6,a7,a8,a9,r8⟩:=Zsc hq hr i3 ((Zam hr 2).mono Gi Gi) (Zam hq 2).minus;obtain⟨b1,b2,-,b4,b5,-,-,b8,b9,s5⟩:=Zsc hq hr i3 (Zam hr 1).minus ((Zam hq 1).mono Gi Gi);have sy:=(Zam hq 2).sm Gi Gi;have su:=(Zam hr 1).sm Gi Gi;(try go_wp2_with fail)
  have i5:Hid (∀ wx,Below UF.heap.size UF wx->(wx.cell? ⟨w.heap.size,0,none⟩=some (.int .i64 3))/\(wx.cell? ⟨w.heap.size,1,none⟩=some (.slice (some ⟨gX,oX,none⟩) 3 c))/\(wx.cell? ⟨w.heap.size,2,none⟩=some (.slice (some ⟨gE,oE,none⟩) 3 d))/\(wx.cell? ⟨gX,oX+4,none⟩=some (.bool xn))/\(wx.cell? ⟨gX,oX+5,none⟩=some (.slice xA xk xc))/\(wx.cell? ⟨gX,oX+6,none⟩=some (.bool xm))/\(wx.cell? ⟨gX,oX+7,none⟩=some (.slice xB xj xd))/\(wx.cell? ⟨gX,oX+8,none⟩=some (.bool yn))/\(wx.cell? ⟨gX,oX+9,none⟩=some (.slice yA yk yc))/\(wx.cell? ⟨gX,oX+10,none⟩=some (.bool ym))/\(wx.cell? ⟨gX,oX+11,none⟩=some (.slice yB yj yd))/\(wx.cell? ⟨gE,oE+4,none⟩=some (.bool un))/\(wx.cell? ⟨gE,oE+5,none⟩=some (.slice uA uk uc))/\(wx.cell? ⟨gE,oE+6,none⟩=some (.bool um))/\(wx.cell? ⟨gE,oE+7,none⟩=some (.slice uB uj ud))/\(wx.cell? ⟨gE,oE+8,none⟩=some (.bool vn))/\(wx.cell? ⟨gE,oE+9,none⟩=some (.slice vA vk vc))/\(wx.cell? ⟨gE,oE+10,none⟩=some (.bool vm))/\(wx.cell? ⟨gE,oE+11,none⟩=some (.slice vB vj vd))/\(wx.cell? ⟨e8,0,none⟩=some (.bool g2))/\(wx.cell? ⟨e8,1,none⟩=some (.slice g5 h1 g8))/\(wx.cell? ⟨e8,2,none⟩=some (.bool h2))/\(wx.cell? ⟨e8,3,none⟩=some (.slice g7 g4 g6))/\(wx.cell? ⟨gF,0,none⟩=some (.func (.func 44) #[] #[.pointer (some ⟨g3,0,none⟩)]))):=Zb (λwx f=>⟨Za f d7,Za f d8,Za f d9,Za f c8,Za f c6,Za f c9,Za f b0,Za f b7,Za f Y,Za f a0,Za f d5,Za f d3,Za f b6,Za f b3,Za f c5,Za f d4,Za f d0,Za f c4,Za f c7,Za f e4,Za f e3,Za f e2,Za f e5,Za f k5⟩)
  have e9:Below UF.heap.size UF UF.drew:=Zg (Qg _ _) 1;refine wp_heldS [] hmx i5 e9 (λhxs2=>?_);refine Zin 20 [0,1,2,3,4,5,6,7,8,9,12,13,14,15,16,17,19,20,21,22] rfl Gj (i5.out _ e9) ?_
  iterate 20 (refine tkA ?_;try simp only[Qb,Zf6,Zfl,Zfx,Gr,Gq,Gp])
  refine tk0 ?_;refine Zbk [(10,56),(11,57),(18,64),(23,69),(24,70),(25,9)] (λ_=>[]) [(10,56),(11,57),(18,64),(23,69),(24,70),(25,9)] (Zb2 [(10,frV (0-qs[2]?.getD 0)),(11,fl3V (Zby qs rs)),(18,frV (0-rs[1]?.getD 0)),(23,fl3V (Za3 qs rs)),(24,plV (Zby qs rs) (Za3 qs rs)),(25,newV UF.heap.size 27 #[.int .i64 0,.slice none 0 0,.slice none 0 0])]) 1 Gj (λp _=>Zh8 (Za1 Zdl (Za1 Zh4 (Za1 Zdl (Za1 Zh4 (Za1 Zm6 (Za1 Zhv Zjg)))))) p.1) (λwx h=>i5.out _ (Gs e9 h)) ?hop2 ?hfin2
  case hop2 =>
   intro p hp;simp only[Qr,Qo,or_false]at hp;simp only[Qh,Qk,Zaj,Qb,Zf6,Zfl,Zfx];rcases hp with rfl|rfl|rfl|rfl|rfl|rfl
   ·intro ν wx hb hP
    have f:=Gs e9 hb;refine Zj (i:=10) rfl (λK hK=>?_);go_simp;refine(Zkk g3 yn ym yA yB yk yc yj yd (qs[2]?.getD 0) wx (Zc f q7.out) (f5.out.below f) sy).mono ?_;exact En
   ·intro ν wx hb hP
    have f:=Gs e9 hb;have j3:=hP (10,56) Gh Gj;simp only[Zb2]at j3;obtain⟨o9,o5,n2,p4,p6,p3,o8,p5,hν10,n8⟩:=j3;rw[hν10];refine Zj (i:=11) rfl (λK hK=>?_);go_simp;refine(Zsh g3 e8 gF w.heap.size vn vm vA vB vk vc vj vd o9 p6 o5 p3 n2 p4 o8 p5 g2 h2 g5 g7 h1 g8 g4 g6 (some ⟨gX,oX,none⟩) (some ⟨gE,oE,none⟩) c d qs rs (rs[2]?.getD 0) (0-qs[2]?.getD 0) (Zb3 qs rs) wx (Zc f q7.out) (Zc f d6.out) (Zc f qF.out) (Zc f q0.out) (e7.out.below f) (e6.out.below f) (f7.out.below f) n8 (e1.out.below f) i3 a1 a2 a3 a4 a5 a6 a7 a8 a9 r8).mono ?_;exact FA
   ·intro ν wx hb hP
    have f:=Gs e9 hb;refine Zj (i:=18) rfl (λK hK=>?_);go_simp;refine(Zkk g3 un um uA uB uk uc uj ud (rs[1]?.getD 0) wx (Zc f q7.out) (f6.out.below f) su).mono ?_;exact En
   ·intro ν wx hb hP
    have f:=Gs e9 hb;have i6:=hP (18,64) Gh Gj;simp only[Zb2]at i6;obtain⟨o6,o2,n5,n6,o4,q2,p8,o3,hν18,n3⟩:=i6;rw[hν18];refine Zj (i:=23) rfl (λK hK=>?_);go_simp;refine(Zsh g3 e8 gF w.heap.size o6 o4 o2 q2 n5 n6 p8 o3 xn xm xA xB xk xc xj xd g2 h2 g5 g7 h1 g8 g4 g6 (some ⟨gX,oX,none⟩) (some ⟨gE,oE,none⟩) c d qs rs (0-rs[1]?.getD 0) (qs[1]?.getD 0) (Zb3 qs rs) wx (Zc f q7.out) (Zc f d6.out) (Zc f qF.out) (Zc f q0.out) (e7.out.below f) (e6.out.below f) n3 (f4.out.below f) (e1.out.below f) i3 b1 b2 a3 b4 b5 a6 a7 b8 b9 s5).mono ?_;exact FA
   ·intro ν wx hb hP
    have f:=Gs e9 hb;have k4:=hP (11,57) Gh Gj;simp only[Zb2]at k4;obtain⟨v8,v0,hν11,o0⟩:=k4;rw[hν11];have j9:=hP (23,69) Gh Gj;simp only[Zb2]at j9;obtain⟨x9,y0,hν23,o1⟩:=j9;rw[hν23];refine Zj (i:=24) rfl (λK hK=>?_);go_simp;exact hK.out _ _ ⟨_,rfl,(by simp only[Zb2];exact⟨_,_,_,_,rfl,⟨o0,o1⟩⟩),Qg _ _,trivial⟩
   intro ν wx hb hP;have f:=Gs e9 hb;refine Zj (i:=25) rfl (λK hK=>?_);exact Fy
  case hfin2 =>
   intro ν wx hb hP;have j3:=hP (10,56) Gh;simp only[Zb2]at j3;obtain⟨x6,w8,x8,w6,w7,w3,v6,t5,hν10,-⟩:=j3;have k4:=hP (11,57) Gh;simp only[Zb2]at k4;obtain⟨v3,x5,hν11,-⟩:=k4;have i6:=hP (18,64) Gh;simp only[Zb2]at i6;obtain⟨v9,t6,v7,t3,x4,v5,t9,w2,hν18,-⟩:=i6;have j9:=hP (23,69) Gh;simp only[Zb2]at j9;obtain⟨x3,t0,hν23,-⟩:=j9;have n1:=hP (24,70) Gh;simp only[Zb2]at n1;obtain⟨h7,h6,h4,h9,hν24,j6⟩:=n1;have n7:=hP (25,9) Gh;simp only[Zb2]at n7;obtain⟨g9,hν25,l5,g1⟩:=n7;simp only[Qh,Qk,Zaj,Qb,Zf6,Zfl,Zfx];rw[hν10,hν11,hν18,hν23,hν24,hν25];clear hν10 hν11 hν18 hν23 hν24 hν25 hP ν;have f:=Gs e9 hb;have c0:=g1.cell 0;have m1:=g1.cell 1;have l9:=g1.cell 2;have f0:=g1.frozen 0;have f1:=g1.frozen 1;have f2:=g1.frozen 2;have i8:UF.heap.size<=g9:=l5;refine(Zbe 3 h7 3 h6 h4 3 h9 f i8 g1).elim (λZ2 hq=>?_);have hZ:=hq.1;refine wpAnyL_o 26 λK hK=>?_;go_simp;(try rw[hZ]);refine hK.out _ _ (λ_=>i5.out _ hq.2.1) ?_;clear hK K
   try simp only[Qb,Zf6,Zfl,Zfx,Gr,Gq,Gp]
   refine wpAnyL_fin ?_;have o:=hq.2.1;have f9:=hq.2.2.1;have i0:=hq.2.2.2 _ _ _ _ j6.1;have h5:=hq.2.2.2 _ _ _ _ j6.2;have q3:=Zb i8;clear hq hZ c0 m1 l9 f0 f1 f2 g1 l5 i8 f hb e9 i5 hxs2 j6;replace e7:=Zb (e7.out.below o);replace e6:=Zb (e6.out.below o);replace q0:=Gm o q0;replace q1:=Gm o q1;replace q7:=Gm o q7;replace f4:=Zb (f4.out.below o);replace f5:=Zb (f5.out.below o);replace f6:=Zb (f6.out.below o);replace f7:=Zb (f7.out.below o);replace d6:=Gm o d6;replace e1:=Zb (e1.out.below o);replace qF:=Gm o qF;have l1:=Gn j4 o;clear j4;replace d7:=Za o d7;replace d8:=Za o d8;replace d9:=Za o d9;replace c8:=Za o c8;replace c6:=Za o c6;replace c9:=Za o c9;replace b0:=Za o b0;replace b7:=Za o b7;replace Y:=Za o Y;replace a0:=Za o a0;replace d5:=Za o d5;replace d3:=Za o d3;replace b6:=Za o b6;replace b3:=Za o b3;replace c5:=Za o c5;replace d4:=Za o d4;replace d0:=Za o d0;replace c4:=Za o c4;replace c7:=Za o c7;replace e4:=Za o e4;replace e3:=Za o e3;replace e2:=Za o e2;replace e5:=Za o e5;replace k5:=Za o k5;clear o;replace f9:=Zb f9;replace i0:=Zb i0;replace h5:=Zb h5
   have k0:Z2.cell? ⟨g3,0,none⟩=some (.int .i64 0):=q7.out.cell 0;have k1:Z2.cell? ⟨g9,0,none⟩=some (.int .i64 3):=f9.out.cell 0;have k2:Z2.cell? ⟨g9,1,none⟩=some (.slice h7 3 h6):=f9.out.cell 1;have k3:Z2.cell? ⟨g9,2,none⟩=some (.slice h4 3 h9):=f9.out.cell 2;go_wp2_with fail;refine(Znh h7 h4 h6 h9 (Zby qs rs) (Za3 qs rs) Z2 i0.out h5.out).mono ?_;rintro e m3 ⟨rfl,f8⟩;replace e7:=Zb (e7.out.below f8);replace e6:=Zb (e6.out.below f8);replace q0:=Gm f8 q0;replace q1:=Gm f8 q1;replace q7:=Gm f8 q7;replace f4:=Zb (f4.out.below f8);replace f5:=Zb (f5.out.below f8);replace f6:=Zb (f6.out.below f8);replace f7:=Zb (f7.out.below f8);replace d6:=Gm f8 d6;replace e1:=Zb (e1.out.below f8);replace qF:=Gm f8 qF;replace f9:=Gm f8 f9;replace i0:=Zb (i0.out.below f8);replace h5:=Zb (h5.out.below f8);have l7:=Gn l1 f8;clear l1 f8 k0 k1 k2 k3;have k1:m3.cell? ⟨g9,0,none⟩=some (.int .i64 3):=f9.out.cell 0;have k2:m3.cell? ⟨g9,1,none⟩=some (.slice h7 3 h6):=f9.out.cell 1;have k3:m3.cell? ⟨g9,2,none⟩=some (.slice h4 3 h9):=f9.out.cell 2;have c0:=q1.out.cell 0;have c1:=q1.out.cell 1;have c2:=q1.out.cell 2;have f0:=q1.out.frozen 0;have f1:=q1.out.frozen 1;have f2:=q1.out.frozen 2;by_cases hR:(Zby qs rs++Za3 qs rs).all Zac=true
   ·rw[Gx hR]
    obtain⟨Z9,j5,i2,h3,m4⟩:=Zbe 3 h7 3 h6 h4 3 h9 l7.out (Qi _) q1.out;have r0:=h3.cell 0;have r1:=h3.cell 1;have r2:=h3.cell 2;go_wp2_with fail;(try rw[j5]);refine bodyPost_ret (v:=.tuple #[.agg #[.int .i64 3,.slice h7 3 h6,.slice h4 3 h9],.int .i64 0]) (by simp[results,Tryz.results12,go_sem,r0,r1,r2]) rfl ?_;exact⟨i2,by rw[Gw i3,Gx hR];exact⟨_,_,_,_,rfl,m4 _ _ _ _ i0.out,m4 _ _ _ _ h5.out⟩⟩
   rw[Gw hR];obtain⟨Z9,j5,i2,h3,m4⟩:=Zbe 0 none 0 0 none 0 0 l7.out (Qi _) q1.out;have r0:=h3.cell 0;have r1:=h3.cell 1;have r2:=h3.cell 2;go_wp2_with fail;(try rw[j5]);refine bodyPost_ret (v:=.tuple #[.agg #[.int .i64 0,.slice none 0 0,.slice none 0 0],.int .i64 16]) (by simp[results,Tryz.results12,go_sem,r0,r1,r2]) rfl ?_;exact⟨i2,by rw[Gw i3,Gw hR]⟩
