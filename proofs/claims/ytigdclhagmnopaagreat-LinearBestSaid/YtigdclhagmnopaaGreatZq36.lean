/- Reference: Same of fractions, rows and matrices that hold -/
import Derived.Test.YtigdclhagmnopaaGreatZq33
import Derived.Test.YtigdclhagmnopaaGreatZq35
set_option maxRecDepth 100000
set_option maxHeartbeats 8000000
set_option linter.unusedSimpArgs false
set_option linter.unusedVariables false
namespace Go.Proofs.YtigdclhagmnopaaGreat
open Go.RowKit
attribute [local go_sem] Zh
theorem Zlp (na:Bool) (a:List Nat):Zg7 na na a a=true:=by
 unfold Zg7
 have:Zca a a=0:=by
  unfold Zca
  simp
 rw [this];simp
theorem Zh7 (na nb:Bool) (A B A' B':Option Addr) (n c m d n' c' m' d':Nat) (la lb:List Nat) (w:World) (ha:Lim w A n c la) (hb:Lim w B m d lb) (ha':Lim w A' n' c' la) (hb':Lim w B' m' d' lb) :
    Calls Tryz.prog 22 #[.agg #[.bool na,.slice A n c,.bool nb,.slice B m d],.agg #[.bool na,.slice A' n' c',.bool nb,.slice B' m' d']] w fun e w'=>e=.returned (.bool true)/\Below w.heap.size w w':=by
 obtain ⟨W0,hW0,hB0,⟨q0,q1⟩,s0⟩:=Zf5 w 45 #[.bool na,.slice A n c,.bool nb,.slice B m d] 45 #[.bool na,.slice A' n' c',.bool nb,.slice B' m' d'];replace ha:=Za (ha.below hB0);replace hb:=Za (hb.below hB0);replace ha':=Za (ha'.below hB0);replace hb':=Za (hb'.below hB0);obtain ⟨a0,a1,a2,a3,-⟩:=q0.four;obtain ⟨b0,b1,b2,b3,-⟩:=q1.four;have hq:=Za (And.intro q0 q1);clear q0 q1;go_enter Tryz.func22,Tryz.ntmps22;go_wp2_with fail;refine (Zfq na na A A' n c n' c' _ _ W0 ha.out ha'.out).mono ?_;rw [Zlp];rintro e w1 ⟨rfl,hb1⟩;have hB1:Below w.heap.size w w1:=hB0.trans (hb1.mono hB0.size);obtain ⟨q0,q1⟩:=hq.out;replace q0:=Zc hb1 q0;replace q1:=Zc hb1 q1;clear hW0 a0 a1 a2 a3 b0 b1 b2 b3 hq hB0;obtain ⟨a0,a1,a2,a3,-⟩:=q0.four;obtain ⟨b0,b1,b2,b3,-⟩:=q1.four;clear q0 q1;go_wp2_with fail;refine (Zfq nb nb B B' m d m' d' _ _ w1 (hb.out.below hb1) (hb'.out.below hb1)).mono ?_;rw [Zlp];rintro e w2 ⟨rfl,hb2⟩;have hB2:Below w.heap.size w w2:=hB1.trans (hb2.mono hB1.size);go_wp2_with fail;go_ret;exact ⟨by simp,hB2⟩
structure DF where
 na:Bool
 la:List Nat
 nb:Bool
 lb:List Nat
def XL (w:World) (A:Option Addr) (n c:Nat) (ds:List DF):Prop:=
 ds.length=n/\n <= c/\c <= maxLen/\∀ (k:Nat) (d:DF),ds[k]?=some d->∃ g o A1 n1 c1 B1 m1 d1,A=some ⟨g,o,none⟩/\At4 w g (o+k * 4) d.na A1 n1 c1 d.nb B1 m1 d1/\Lim w A1 n1 c1 d.la/\Lim w B1 m1 d1 d.lb
section
variable {w w':World} {A:Option Addr} {n c:Nat} {ds:List DF} {D:List (List DF)}
theorem XL.below (h:XL w A n c ds) (hb:Below w.heap.size w w'):XL w' A n c ds:=by
 obtain ⟨h1,h2,h3,h4⟩:=h;refine ⟨h1,h2,h3,fun k d hd=>?_⟩;obtain ⟨g,o,A1,n1,c1,B1,m1,d1,e,a,b,b'⟩:=h4 k d hd;exact ⟨g,o,A1,n1,c1,B1,m1,d1,e,a.below hb,b.below hb,b'.below hb⟩
def dfQ (q:Rat):DF:=⟨decide (q.num < 0),digits q.num.natAbs,false,digits q.den⟩
theorem FL.xl {qs:List Rat} (h:FL w A n c qs):XL w A n c (qs.map dfQ):=by
 have hl:=h.len;refine ⟨by rw [List.length_map,hl],h.cap.1,h.cap.2,fun k d hd=>?_⟩;rw [List.getElem?_map] at hd;obtain ⟨q,hq,rfl⟩:=Option.map_eq_some_iff.1 hd
 have hk:k < n:=by have:=(List.getElem?_eq_some_iff.1 hq).1;omega
 obtain ⟨g,o,na,A1,n1,c1,nb,B,m,d,e1,e2,e3⟩:=h.at_ hk;rw [hq,Option.getD_some] at e3;have h1:=e3.1.1;have h2:=e3.2.1;have h3:=e3.2.2.2;rw [Int.natAbs_natCast] at h3
 have h4:nb=false:=by rw [h2];exact decide_eq_false (by omega)
 subst h1 h4;exact ⟨g,o,_,_,_,_,_,_,e1,e2,e3.1.2.2,h3⟩
theorem XL.nil (w:World):XL w none 0 0 []:=⟨rfl,Nat.le_refl _,Nat.zero_le _,fun k d hd=>(by cases hd)⟩
end
theorem Zi8 (A B:Option Addr) (n c d:Nat) (ds:List DF) (w:World) (ha:XL w A n c ds) (hb:XL w B n d ds) :
    Calls Tryz.prog 21 #[.slice A n c,.slice B n d] w fun e w'=>e=.returned (.bool true)/\Below w.heap.size w w':=by
 have hmx:Tryz.prog.follows .mixedOrders=true:=by kernel_rfl
 have hl:=Za ha.1;have hc:=ha.2.1;have hcm:=ha.2.2.1;have hd:=hb.2.1;have hdm:=hb.2.2.1;unfold maxLen at hcm hdm;replace ha:=Za ha;replace hb:=Za hb
 have t0:(((n:Int)) != (n:Int))=false:=by simp
 go_enter Tryz.func21,Tryz.ntmps21;go_wp2_with fail
 go_loopg [5] n (fun k iv wr=>∃ i:Nat,i+k=n/\iv=.int .i64 i/\Below w.heap.size w wr)
 case atStart=>exact ⟨0,by omega,rfl,Below.refl _ _⟩
 case round =>
  obtain ⟨i,hik,rfl,hB⟩:=hrel
  cases gk with
  | zero =>
   obtain rfl:i=n:=by omega
   have t1:decide ((i:Int) < (i:Int))=false:=by simp
   go_wp2_with fail;go_ret;exact ⟨rfl,hB⟩
  | succ k' =>
   obtain rfl:k'=n - (i+1):=by omega
   have hin:i < n:=by omega
   have t1:decide ((i:Int) < (n:Int))=true:=decide_eq_true (by omega)
   have bi:(i:Int) < (n:Int):=by omega
   obtain ⟨x,hx⟩:=Zcv (L:=ds) (i:=i) (by rw [hl.out];exact hin);obtain ⟨g,o,A1,n1,c1,B1,m1,d1,rfl,⟨r0,r1,r2,r3⟩,l1,l2⟩:=(ha.out.below hB).2.2.2 i x hx;obtain ⟨g',o',A1',n1',c1',B1',m1',d1',rfl,⟨s0,s1,s2,s3⟩,l1',l2'⟩:=(hb.out.below hB).2.2.2 i x hx;replace l1:=Za l1;replace l2:=Za l2;replace l1':=Za l1';replace l2':=Za l2';go_wp2_with fail;obtain ⟨X0,hX0⟩:∃ X,wr.drew=X:=⟨_,rfl⟩
   have hr1:Below wr.heap.size wr X0:=by rw [<- hX0];exact Zf (Below.refl _ _) 1
   have hSv1:Hid (∀ wx,Below wr.heap.size wr wx->wx.cell? ⟨g,o+i * 4,none⟩=some (.bool x.na)/\wx.cell? ⟨g,o+i * 4+1,none⟩=some (.slice A1 n1 c1)/\wx.cell? ⟨g,o+i * 4+2,none⟩=some (.bool x.nb)/\wx.cell? ⟨g,o+i * 4+3,none⟩=some (.slice B1 m1 d1)/\wx.cell? ⟨g',o'+i * 4,none⟩=some (.bool x.na)/\wx.cell? ⟨g',o'+i * 4+1,none⟩=some (.slice A1' n1' c1')/\wx.cell? ⟨g',o'+i * 4+2,none⟩=some (.bool x.nb)/\wx.cell? ⟨g',o'+i * 4+3,none⟩=some (.slice B1' m1' d1')):=Za (fun wx hbx=>⟨Zb hbx r0,Zb hbx r1,Zb hbx r2,Zb hbx r3,Zb hbx s0,Zb hbx s1,Zb hbx s2,Zb hbx s3⟩);refine wp_heldS [] hmx hSv1 (by rw [hX0];exact hr1) (fun hxs=>?_);rw [hX0];refine Zi4 8 [0,1,2,3,4,5,6,7] rfl (by kernel_rfl) (hSv1.out _ hr1) ?_
   iterate 8 (refine tk1 (v:=?_) rfl (Or.inl ⟨by kernel_rfl,?_⟩) ?_;rotate_left;(· intro W2 hSw;(try dsimp only at hSw);go_simp;try with_reducible rfl);try simp only [Act.put,Zgj,Zfx,Zge,putG_a,putG_s,putG_z])
   refine tk0 ?_;refine Ze (i:=8) rfl (by kernel_rfl) (fun K hK=>?_);go_simp;refine (Zh7 x.na x.nb A1 B1 A1' B1' n1 c1 m1 d1 n1' c1' m1' d1' x.la x.lb X0 (l1.out.below hr1) (l2.out.below hr1) (l1'.out.below hr1) (l2'.out.below hr1)).mono ?_;rintro e w3 ⟨rfl,hb3⟩;have hr3:=hr1.trans (hb3.mono hr1.size);have hB3:=hB.trans (hr3.mono hB.size);refine hK.out _ _ (fun _=>hSv1.out _ hr3) ?_;clear hK K
   try simp only [Act.put,Zgj,Zfx,Zge]
   refine Zfy 1 [9] rfl (by kernel_rfl) (hSv1.out _ hr3) ?_
   (refine tk1 (v:=?_) rfl (Or.inl ⟨by kernel_rfl,?_⟩) ?_;rotate_left;(· intro W2 _;go_simp;try with_reducible rfl);try simp only [Act.put,Zgj,Zfx,Zge,putG_a,putG_s,putG_z])
   refine tk0 ?_;refine Zk (by kernel_rfl) ?_ _;refine OnlyNormal.normal ?_;clear hxs hSv1;go_wp2_with fail
   go_roundg (n - (i+1))
   case measure=>omega
   case rel=>exact ⟨i+1,by omega,by go_num,hB3⟩
theorem Zbq {rs:List RI} {rr ws:List Int} (h:Zb2 rs rr ws=0):rs.length <= 200/\(∀ r ∈ rs,r.n <= 12)/\n0I rs ≠ 0/\ws.length=rs.length/\rr.length=rs.length/\Zda 1 ws=false/\Zda (-1099511627776) rr=false/\∀ r ∈ rs,r.n=n0I rs/\Zda (-1099511627776) r.l=false:=by
 unfold Zb2 at h
 split at h
 ·cases h
 ·rename_i h1
  split at h
  ·rename_i h2
   simp only [Zdk,Bool.or_eq_true,decide_eq_true_eq,not_or,List.any_eq_true,not_exists,RI.long,not_and] at h1;simp only [Zii,Bool.and_eq_true,Bool.not_eq_true',decide_eq_false_iff_not,decide_eq_true_eq,List.all_eq_true,Zhg] at h2;obtain ⟨a1,a2,a3,a4,a5,a6⟩:=h2;exact ⟨by omega,fun r hr=>by have:=h1.2 r hr;omega,a1,a2,a3,a4,a5,a6⟩
  ·cases h
theorem makeI64 {P:Program} (t e:TypeId) {i:TypeInfo} (ht:P.underlying t=some (.slice e)) (hi:P.info? e=some i) (hz:i.zero=some (.int .i64 0)) (hs:i.size=1) (hb:i.bytes=8)
    (x:Int) (n:Nat) (hx:x=n) (hn:n <= 1000000000000) (W:World) :
    (Instr.makeSlice t (.int .i64 x) (.int .i64 x)).run P W=.ok (.slice (some ⟨W.heap.size,0,none⟩) n n) (W.alloc (.cells (madeCells #[.int .i64 0] n) e)):=by
 subst hx;have hr:=run_make (P:=P) W t e i _ ht hi hz .i64 .i64 n n (by omega) (by omega) (by rw [hb];omega) (by omega);simp only [Int.toNat_natCast] at hr;rw [hr,hs,Nat.mul_one]
 rfl
theorem LimI.zeros {w:World} {g:Nat} {t:TypeId} {n:Nat} (h:Blk w g t (madeCells #[.int .i64 0] n)) (hn:n <= maxLen):LimI w (some ⟨g,0,none⟩) n n (List.replicate n 0):=by
 refine ⟨by simp,Nat.le_refl _,hn,fun x hx=>?_,fun _=>⟨g,0,rfl,fun k hk=>?_⟩⟩
 ·rw [List.eq_of_mem_replicate hx];unfold I64;decide
 ·rw [Nat.zero_add,h.cell,List.getElem?_replicate,if_pos hk]
  unfold madeCells
  simp [hk,Nat.mod_one]
theorem info64':(Tryz.prog.info? 2).map (fun i=>(i.zero,i.size,i.bytes))=some (some (.int .i64 0),1,8):=by kernel_rfl
def RS.cut (r:RS):RS:=⟨r.A,r.n - 1,r.c⟩
def Zhz (rs:List RS) (i:Nat):List RS:=(rs.take i).map RS.cut ++ rs.drop i
theorem Zt0 (rs:List RS):Zhz rs 0=rs:=by simp [Zhz]
theorem Zw7 (rs:List RS):Zhz rs rs.length=rs.map RS.cut:=by simp [Zhz]
theorem Zpc (rs:List RS) (i:Nat):(Zhz rs i).length=rs.length:=by simp [Zhz];omega
theorem Zw2 {rs:List RS} {i:Nat} {r:RS} (h:rs[i]?=some r) (zs:List RS):(Zhz rs i ++ zs)[i]?=some r:=by
 have hi:=(List.getElem?_eq_some_iff.1 h).1;rw [List.getElem?_append_left (by rw [Zpc];exact hi)];unfold Zhz;rw [List.getElem?_append_right (by simp;omega)];simp only [List.length_map,List.length_take,Nat.min_eq_left (Nat.le_of_lt hi),Nat.sub_self,List.getElem?_drop,Nat.add_zero];exact h
theorem Zvn {rs:List RS} {i:Nat} {r:RS} (h:rs[i]?=some r) (zs:List RS):(Zhz rs i ++ zs).set i r.cut=Zhz rs (i+1) ++ zs:=by
 have hi:=(List.getElem?_eq_some_iff.1 h).1;have hr:rs[i]=r:=(List.getElem?_eq_some_iff.1 h).2;rw [List.set_append_left _ _ (by rw [Zpc];exact hi)]
 congr 1
 unfold Zhz;rw [List.set_append_right _ _ (by simp;omega)];simp only [List.length_map,List.length_take,Nat.min_eq_left (Nat.le_of_lt hi),Nat.sub_self];rw [List.drop_eq_getElem_cons hi,List.set_cons_zero,List.take_add_one,List.getElem?_eq_getElem hi,hr]
 simp
theorem FL.keptS {w w':World} {A:Option Addr} {n c:Nat} {qs:List Rat} {go:Nat} {tS:TypeId} {rs:List RS} (h:FL w A n c qs) (hk:Kept (fun g=>g=go) w w') (hb:Blk w go tS (Z7 rs)):FL w' A n c qs:=by
 have hG:∀ k,(fun g=>g=go) k->∃ t cs,Blk w k t cs/\NoLimb cs:=fun k e=>by
  cases e;exact ⟨_,_,hb,Zbb rs⟩
 obtain ⟨es,h1,h2,h3,h4,h5,h6⟩:=h;refine ⟨es,h1,h2,h3,fun e he=>⟨hk.wd (h4 e he).1 hG,hk.wd (h4 e he).2 hG⟩,h5,fun hn=>?_⟩;obtain ⟨g,o,e1,hc⟩:=h6 hn;refine ⟨g,o,e1,fun k e he=>?_⟩;obtain ⟨a,b,c',d⟩:=hc k e he
 have hgo:g ≠ go:=fun e'=>by
  subst e';rw [hb.cell] at a;unfold Z7 at a;simp only [List.getElem?_toArray,Zce,List.getElem?_map,Option.map_eq_some_iff] at a;obtain ⟨r,-,hr⟩:=a
  cases hr
 have hkc:∀ (j:Nat) (v:Value),w.cell? ⟨g,j,none⟩=some v->w'.cell? ⟨g,j,none⟩=some v:=fun j v hv=>by
  rw [<- hv];exact World.cell?_of_block (hk.block g (Zp hv) hgo)
 exact ⟨hkc _ _ a,hkc _ _ b,hkc _ _ c',hkc _ _ d⟩
def Zd9 (rs:List RI) (ws:List Int) (n m:Nat):List (List Rat):=(List.range m).map fun i=>(List.range m).map fun k=>((Za4 ws (Zv rs i) (Zv rs k) n:Int):Rat)
theorem Zui (rs:List RI) (rr ws:List Int) (n m:Nat):(Zbi rs rr ws n m).map (fun q=>q.take m)=Zd9 rs ws n m:=by
 unfold Zbi Zd9;rw [List.map_map]
 refine List.map_congr_left fun i _=>?_
 show (Zfg rs rr ws n m i).take m=_;unfold Zfg;rw [List.take_append_of_le_length (by simp),List.take_of_length_le (by simp)]
theorem Zsh (A C:Option Addr) (n c e0 m:Nat) (rs:List RI) (ws:List Int) (w:World) (h:MIL w A n c rs) (hw:LimI w C n e0 ws) (hE:Zb2 rs (List.replicate n 0) ws=0) (hm:n0I rs=m) :
    Calls Tryz.prog 16 #[.slice A n c,.slice C n e0] w fun e w'=>∃ go,e=.returned (.tuple #[.slice (some ⟨go,0,none⟩) m m,.int .i64 0])/\Below w.heap.size w w'/\MFL w' (some ⟨go,0,none⟩) m m (Zd9 rs ws n m):=by
 obtain ⟨iI,ji,jz0,jz1,jz2⟩:=info_parts info64';obtain ⟨f1,f2,f3,f4,f5,f6,f7,f8⟩:=Zbq hE;have hl:=h.1;rw [hl] at f1;rw [hm] at f3
 have hn0:0 < n:=by
  rcases Nat.eq_zero_or_pos n with h0 | h0
  ·exfalso
   have:rs=[]:=List.eq_nil_of_length_eq_zero (by omega);subst this;exact f3 (by rw [<- hm];rfl)
  ·exact h0
 have hrow:∀ r ∈ rs,r.n=m:=fun r hr=>by rw [(f8 r hr).1,hm]
 have hm12:m <= 12:=by
  obtain ⟨_,_,r0,_,hr0,_⟩:=h.at_ (i:=0) hn0;have h1:=List.mem_of_getElem? hr0;rw [<- hrow r0 h1];exact f2 r0 h1
 have hm0:0 < m:=by omega
 have hmin:min (n:Int) 200=(n:Int):=by omega
 have hmk:=makeI64 (P:=Tryz.prog) 34 2 Tryz.underlying34 ji jz0 jz1 jz2 (n:Int) n rfl (by omega) w;obtain ⟨W0,hW0,hB0,q0,s0⟩:=Zbr w 2 (madeCells #[.int .i64 0] n);have hZ:=Za (LimI.zeros q0 (by unfold maxLen;omega));have hM:=Za (h.below hB0);have hWs:=Za (hw.below hB0);clear q0 h hw f2 f3 f4 f5 f6 f7 f8;replace hE:=Za hE;replace hm:=Za hm;replace hl:=Za hl;replace hrow:=Za hrow;go_enter Tryz.func16,Tryz.ntmps16;go_wp2_with fail;(try rw [hW0]);refine (Zg6 A (some ⟨w.heap.size,0,none⟩) C n c n n n e0 rs (List.replicate n 0) ws W0 hM.out hZ.out hWs.out 0 hE.out).mono ?_;rintro e w1 ⟨rfl,hb1⟩;go_wp2_with fail;refine (Zky A (some ⟨w.heap.size,0,none⟩) C n c n e0 m rs (List.replicate n 0) ws w1 (hM.out.below hb1) (hZ.out.below hb1) (hWs.out.below hb1) hn0 (by omega) hm0 (by omega) hrow.out).mono ?_;rintro e w2 ⟨go,rs',rfl,hb2,hrl,base,hbb,hMA⟩;have hB2:=hB0.trans ((hb1.trans (hb2.mono hb1.size)).mono hB0.size);obtain ⟨⟨zs,hbl⟩,hbg,hlen,hown,-⟩:=hMA
 have hrf:∀ (i:Nat) (r:RS),rs'[i]?=some r->r.n=m+1/\m+1 <= r.c/\r.c <= maxLen/\FL w2 r.A r.n r.c ((Zbi rs (List.replicate n 0) ws n m)[i]?.getD []):=fun i r hr=>by
  have hi:i < m:=by rw [<- hrl];exact (List.getElem?_eq_some_iff.1 hr).1
  obtain ⟨a1,a2⟩:=(hown i r hr).rsn
  have a3:((Zbi rs (List.replicate n 0) ws n m)[i]?.getD []).length=m+1:=by
   unfold Zbi;rw [List.getElem?_map,List.getElem?_range hi,Option.map_some,Option.getD_some,Zel]
  rw [a3] at a1;have a4:=a2.cap;rw [a1] at a4;exact ⟨a1,a4.1,a4.2,a2⟩
 have hgoB:w.heap.size <= go:=Nat.le_trans (Nat.le_trans (hB0.trans (hb1.mono hB0.size)).size hbb) hbg;replace hrf:=Za hrf;replace hown:=Za hown;replace hbl:=Za hbl;replace hB2:=Za hB2;clear hb1 hb2 hB0 hM hWs hZ hmk hbb hbg;go_wp2_with fail
 go_loopg [28] m (fun k iv wr=>∃ i:Nat,i+k=m/\iv=.int .i64 i/\Blk wr go 40 (Z7 (Zhz rs' i ++ zs))/\Kept (fun g=>g=go) w2 wr)
 case atStart=>exact ⟨0,by omega,rfl,by rw [Zt0];exact hbl.out,Kept.refl _ _⟩
 case round =>
  obtain ⟨i,hik,rfl,hbr,hK⟩:=hrel
  cases gk with
  | zero =>
   obtain rfl:m=i:=by omega
   have t2:decide ((m:Int) < (m:Int))=false:=by simp
   have hBx:=hB2.out.trans (hK.to_below (fun k hk=>by rw [hk];exact hgoB) hB2.out.size)
   have hfin:MFL wr (some ⟨go,0,none⟩) m m (Zd9 rs ws n m):=by
    refine ⟨by unfold Zd9;simp,Nat.le_refl _,by unfold maxLen;omega,fun _=>⟨go,0,rfl,fun j q hq=>?_⟩⟩;rw [<- Zui rs (List.replicate n 0) ws n m,List.getElem?_map,Option.map_eq_some_iff] at hq;obtain ⟨q0,hq0,rfl⟩:=hq
    have hj:j < rs'.length:=by rw [hlen];exact (List.getElem?_eq_some_iff.1 hq0).1
    have hr:=List.getElem?_eq_getElem hj;obtain ⟨a1,a2,a3,a4⟩:=hrf.out j _ hr;rw [hq0,Option.getD_some] at a4;have a5:=(a4.keptS hK hbl.out).take (k:=m) (by omega)
    have hcut:(Zhz rs' m ++ zs)[j]?=some (rs'[j]).cut:=by
     rw [<- hrl,Zw7,List.getElem?_append_left (by simpa using hj),List.getElem?_map,hr];rfl
    refine ⟨_,_,_,by rw [Nat.zero_add,hbr.cell];exact Zbw hcut,?_⟩;simp only [RS.cut,a1];exact a5
   replace hfin:=Za hfin;clear hbr hK;go_wp2_with fail;go_returns;exact ⟨go,rfl,hBx,hfin.out⟩
  | succ k' =>
   obtain rfl:k'=m - (i+1):=by omega
   have him:i < m:=by omega
   have t2:decide ((i:Int) < (m:Int))=true:=decide_eq_true (by omega)
   have bi:(i:Int) < (m:Int):=by omega
   obtain ⟨r,hr⟩:=Zcv (L:=rs') (i:=i) (by omega);obtain ⟨a1,a2,a3,-⟩:=hrf.out i r hr;have cr:=hbr.cell i;rw [Zbw (Zw2 hr zs),a1] at cr;have zr:=hbr.frozen i;unfold maxLen at a3
   have hset:Blk (wr.setCell ⟨go,i,none⟩ (.slice r.A m r.c)) go 40 (Z7 (Zhz rs' (i+1) ++ zs)):=by
    have:=hbr.set_ i (.slice r.A m r.c)
    have hcut:r.cut=⟨r.A,m,r.c⟩:=by simp only [RS.cut,a1];rfl
    have e2:(Zhz rs' i ++ zs).set i ⟨r.A,m,r.c⟩=Zhz rs' (i+1) ++ zs:=by rw [<- hcut,Zvn hr zs]
    rw [show Value.slice r.A m r.c=Value.slice (RS.mk r.A m r.c).A (RS.mk r.A m r.c).n (RS.mk r.A m r.c).c from rfl,Zdb ⟨r.A,m,r.c⟩,e2] at this;exact this
   have hK2:Hid (Kept (fun g=>g=go) w2 (wr.setCell ⟨go,i,none⟩ (.slice r.A m r.c))):=Za (hK.set_ (p:=⟨go,i,none⟩) (.inl rfl) _);replace hset:=Za hset
   have s1:((m+1:Nat):Int) - 1=(m:Int):=by omega
   have s2:(m:Int) <= (r.c:Int):=by omega
   have s3:m <= r.c:=by omega
   clear hbr hK a1;replace hr:=Za hr;go_wp2_with fail
   go_roundg (m - (i+1))
   case measure=>omega
   case rel=>exact ⟨i+1,by omega,by go_num,hset.out,hK2.out⟩
theorem Zfw (A:Option Addr) (n c:Nat) (l:List Int) (least:Int) (w:World) (h:LimI w A n c l) (b:Bool) (hb:Zda least l=b) :
    Calls Tryz.prog 89 #[.slice A n c,.int .i64 least] w fun e w'=>e=.returned (.bool (!b))/\Below w.heap.size w w':=by
 have hl:=h.1;have hnc:=h.2.1;have hcm:=h.2.2.1;unfold maxLen at hcm;have hg:=Za h.2.2.2.2;clear h;replace hl:=Za hl;replace hb:=Za hb;go_enter Tryz.func89,Tryz.ntmps89;go_wp2_with fail
 go_loopw [5] (fun iv wr=>∃ i:Nat,i <= n/\iv=.int .i64 i/\Hid (∀ j,j < i->Zgq least (l[j]?.getD 0)=false)/\Below w.heap.size w wr) (fun iv _=>n - (intOf iv).toNat)
 case atStart=>exact ⟨0,Nat.zero_le _,rfl,Za (fun j hj=>by omega),Below.refl _ _⟩
 case round =>
  obtain ⟨i,hik,rfl,hall,hBp⟩:=hrel
  by_cases hin:i < n
  case neg =>
   obtain rfl:n=i:=by omega
   have htk:decide ((n:Int) < (n:Int))=false:=by simp
   obtain rfl:b=false:=by
    rw [<- hb.out];unfold Zda;rw [List.any_eq_false];intro e he;obtain ⟨j,hj,hje⟩:=List.getElem_of_mem he;have:=hall.out j (by rw [hl.out] at hj;exact hj);rw [List.getElem?_eq_getElem hj,hje] at this;simp only [Option.getD_some] at this;rw [this];decide
   go_wp2_with fail;go_ret;exact ⟨rfl,hBp⟩
  have htk:decide ((i:Int) < (n:Int))=true:=decide_eq_true (by omega);obtain ⟨g,o,rfl,hcc⟩:=hg.out (by omega);have c0:=(hBp.cell (Zp (hcc i hin))).trans (hcc i hin)
  have hin2:Zgq least (l[i]?.getD 0)=true->b=true:=fun hx=>by
   rw [<- hb.out];unfold Zda;rw [List.any_eq_true];refine ⟨l[i]?.getD 0,?_,hx⟩;have:=hl.out;rw [List.getElem?_eq_getElem (by omega)];exact List.getElem_mem _
  have hall1:Zgq least (l[i]?.getD 0)=false->Hid (∀ j,j < i+1->Zgq least (l[j]?.getD 0)=false):=fun hx=>Za (fun j hj=>by
   rcases Nat.lt_or_ge j i with h' | h'
   ·exact hall.out j h'
   ·obtain rfl:j=i:=by omega
    exact hx)
  clear hcc;obtain ⟨z,hz⟩:∃ z,l[i]?.getD 0=z:=⟨_,rfl⟩;rw [hz] at c0 hin2 hall1;replace hz:=Za hz;replace hin2:=Za hin2;replace hall1:=Za hall1
  by_cases h1:z < least
  ·have t1:decide (z < least)=true:=decide_eq_true h1
   obtain rfl:b=true:=hin2.out (by unfold Zgq;rw [t1];rfl);go_wp2_with fail;go_ret;exact ⟨rfl,hBp⟩
  have t1:decide (z < least)=false:=decide_eq_false h1
  by_cases h2:1099511627776 < z
  ·have t2:decide (1099511627776 < z)=true:=decide_eq_true h2
   obtain rfl:b=true:=hin2.out (by unfold Zgq;rw [t1,t2];rfl);go_wp2_with fail;go_ret;exact ⟨rfl,hBp⟩
  have t2:decide (1099511627776 < z)=false:=decide_eq_false h2;have hall2:=hall1.out (by unfold Zgq;rw [t1,t2];rfl);clear hall1 hin2;go_wp2_with fail
  go_roundw
  case rel=>exact ⟨i+1,by omega,by go_num,hall2,(by first | exact hBp | exact Zf hBp _)⟩
  case measure=>simp [intOf];omega
def Zo6 (rs:List RI) (ws:List Int) (n m i:Nat):List Rat:=(List.range m).map fun k=>((Za4 ws (Zv rs i) (Zv rs k) n:Int):Rat)
theorem Zpl (rs:List RI) (ws:List Int) (n m:Nat):(Zd9 rs ws n m).length=m:=by unfold Zd9;simp
end Go.Proofs.YtigdclhagmnopaaGreat
