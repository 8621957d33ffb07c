/- The reference of lov: sample. -/
import Derived.Test.YtkcbhbddgmkoiaaGreatZl30
set_option maxRecDepth 100000
set_option maxHeartbeats 16000000
set_option linter.unusedSimpArgs false
set_option linter.unusedVariables false
namespace Go.Proofs.YtkcbhbddgmkoiaaGreat
open Go.RowKit
attribute [local go_sem] Zg
def Zfk (pre : Nat) (q0 : Rat) (G : Nat -> Value -> World -> Prop) (i : Nat) (v : Value) (w : World) : Prop:=
 if i = pre then ∃ na A n c nb B m d,v = .agg #[.bool na,.slice A n c,.bool nb,.slice B m d] /\ Fr w na A n c nb B m d q0 else G i v w
theorem Zni {pre : Nat} {q0 : Rat} {G : Nat -> Value -> World -> Prop} (hG : ∀ i v w w',Below w.heap.size w w' -> G i v w -> G i v w') {i : Nat} {v : Value} {w w' : World} (hb : Below w.heap.size w w') (h : Zfk pre q0 G i v w) : Zfk pre q0 G i v w':=by
 unfold Zfk at h ⊢
 split at h
 ·rename_i h1;rw [if_pos h1]
  obtain ⟨na,A,n,c,nb,B,m,d,e,hf⟩:=h;exact ⟨na,A,n,c,nb,B,m,d,e,hf.below hb⟩
 ·rename_i h1;rw [if_neg h1];exact hG _ _ _ _ hb h
def SmpPost (s : St) (dir : List Rat) (d : Int) (w : World) (e : Ending) (w' : World) : Prop:=
 ∃ (S : St) (b : Bool),e = .returned (.tuple #[.agg S.cells,.bool b]) /\ (b = true -> movE s dir d = 0 /\ movV s dir d = S) /\ (b = false -> movE s dir d = 24 /\ movV s dir d = St.zero) /\ Below w.heap.size w w'
theorem Zoj (s : St) (A : Option Addr) (c : Nat) (dir : List Rat) (d : Int) (w : World) (hD : FL w A 6 c dir) (hS : Zj4 dir d) (hd1 : -9223372036854775808 <= d) (hd2 : d <= 9223372036854775807) :
    Calls Tryz.prog 51 #[.agg #[.int .i64 s.t,.int .i64 s.p0,.int .i64 s.p1,.int .i64 s.p2,.int .i64 s.v0,.int .i64 s.v1,.int .i64 s.v2],.slice A 6 c,.int .i64 d] w (SmpPost s dir d w):=by
 have hcap:=hD.cap;unfold maxLen at hcap
 have hmx : Tryz.prog.follows .mixedOrders = true:=by kernel_rfl
 obtain ⟨W0,hW0,hB0,⟨q0,q1,q2⟩,s0⟩:=Zbx w 40 #[.int .i64 s.t,.int .i64 s.p0,.int .i64 s.p1,.int .i64 s.p2,.int .i64 s.v0,.int .i64 s.v1,.int .i64 s.v2] 40 #[.int .i64 0,.int .i64 0,.int .i64 0,.int .i64 0,.int .i64 0,.int .i64 0,.int .i64 0] 40 #[.int .i64 s.t,.int .i64 s.p0,.int .i64 s.p1,.int .i64 s.p2,.int .i64 s.v0,.int .i64 s.v1,.int .i64 s.v2];have q0' : Blk W0 w.heap.size 40 s.cells:=q0;have q1' : Blk W0 (w.heap.size + 1) 40 St.zero.cells:=q1;have q2' : Blk W0 (w.heap.size + 1 + 1) 40 (mvS s (Zb1 dir d) 0).cells:=q2;have hDh:=Za hD;have hWh:=Za (fun W=>Zjv d W hd1 hd2);replace hS:=Za hS;clear q0 q1 q2 hD;have hq:=Za (And.intro q0' (And.intro q1' q2'));clear q0' q1' q2';replace hW0:=Za hW0;replace hB0:=Za hB0;go_enter Tryz.func51,Tryz.ntmps51;have hW0':=hW0.out;go_wp2_with fail;clear hW0';(try rw [hW0.out])
 go_loopg [9] 6 (fun k iv wr=>∃ i : Nat,i + k = 6 /\ iv = .int .i64 i /\ Hid (Below w.heap.size w wr) /\ Hid (∀ j,j < i -> Zbt (Zb1 dir d j)) /\ Hid (Blk wr w.heap.size 40 s.cells /\ Blk wr (w.heap.size + 1) 40 St.zero.cells /\ Blk wr (w.heap.size + 1 + 1) 40 (mvS s (Zb1 dir d) i).cells))
 case atStart=>exact ⟨0,by omega,rfl,hB0,Za (fun j hj=>by omega),hq⟩
 case round =>
  clear hq hB0 hW0;obtain ⟨wi,rfl⟩ : ∃ x : World,x = wr:=⟨_,rfl⟩;obtain ⟨i,hik,rfl,hBi,hN,hq⟩:=hrel;have sBi:=hBi.out.size
  cases gk with
  | zero =>
   obtain rfl : i = 6:=by omega
   obtain ⟨q0,q1,q2⟩:=hq.out;obtain ⟨S6,hS6⟩ : ∃ S,mvS s (Zb1 dir d) 6 = S:=⟨_,rfl⟩;rw [hS6] at q2;obtain ⟨c0,c1,c2,c3,c4,c5,c6⟩:=Z3 (show Blk wi (w.heap.size + 1 + 1) 40 #[.int .i64 S6.t,.int .i64 S6.p0,.int .i64 S6.p1,.int .i64 S6.p2,.int .i64 S6.v0,.int .i64 S6.v1,.int .i64 S6.v2] from q2);clear hq;have hq:=Za (And.intro q1 q2);have l2:=q2.lt;clear q0 q1 q2;obtain ⟨E,hE⟩ : ∃ E,stE S6 = E:=⟨_,rfl⟩
   have t5 : decide (((6 : Nat) : Int) < 6) = false:=by decide
   go_wp2_with fail;have hSv : Hid (∀ wx,Below wi.heap.size wi wx -> wx.cell? ⟨w.heap.size + 1 + 1,0,none⟩ = some (.int .i64 S6.t) /\ wx.cell? ⟨w.heap.size + 1 + 1,1,none⟩ = some (.int .i64 S6.p0) /\ wx.cell? ⟨w.heap.size + 1 + 1,2,none⟩ = some (.int .i64 S6.p1) /\ wx.cell? ⟨w.heap.size + 1 + 1,3,none⟩ = some (.int .i64 S6.p2) /\ wx.cell? ⟨w.heap.size + 1 + 1,4,none⟩ = some (.int .i64 S6.v0) /\ wx.cell? ⟨w.heap.size + 1 + 1,5,none⟩ = some (.int .i64 S6.v1) /\ wx.cell? ⟨w.heap.size + 1 + 1,6,none⟩ = some (.int .i64 S6.v2)):=Za (fun wx hbx=>⟨Zb hbx c0,Zb hbx c1,Zb hbx c2,Zb hbx c3,Zb hbx c4,Zb hbx c5,Zb hbx c6⟩);have hr : Below wi.heap.size wi wi.drew:=Zi (Below.refl _ _) 1;clear c0 c1 c2 c3 c4 c5 c6;refine wp_heldS [] hmx hSv hr (fun hxs=>?_);refine Zre 2 [0,1] rfl (by kernel_rfl) (hSv.out _ hr) ?_
   iterate 2 (refine tk1 (v:=?_) rfl (Or.inl ⟨by kernel_rfl,?_⟩) ?_;rotate_left;(· intro W2 hSw;(try dsimp only at hSw);go_simp;try with_reducible rfl);try simp only [Act.put,putL_a,putL_z,putL_s,putG_a,putG_s,putG_z])
   refine tk0 ?_;refine Ze (i:=2) rfl (by kernel_rfl) (fun K hK=>?_);go_simp;refine (Zg2 S6 wi.drew).mono ?_;rintro e w8 ⟨rfl,hb8⟩;have hr8:=hr.trans (hb8.mono hr.size);rw [hE];refine hK.out _ _ (fun _=>hSv.out _ hr8) ?_;clear hK K
   try simp only [Act.put,putL_a,putL_z,putL_s]
   by_cases h0 : E = 0
   case neg =>
    have t0 : (E == 0) = false:=by simpa using h0
    have t0' : decide (E = 0) = false:=by simpa using h0
    have hM:=Za (Zk9 (s:=s) (dir:=dir) (d:=d) (by rw [hS6,hE];exact h0));replace h0:=Za h0;clear hS6 hE;obtain ⟨q1,q2⟩:=hq.out;replace q1:=Zc hr8 q1;replace q2:=Zc hr8 q2;have hB8:=hBi.out.trans (hr8.mono hBi.out.size);obtain ⟨x0,x1,x2,x3,x4,x5,x6⟩:=Z3 (show Blk w8 (w.heap.size + 1) 40 #[.int .i64 0,.int .i64 0,.int .i64 0,.int .i64 0,.int .i64 0,.int .i64 0,.int .i64 0] from q1);obtain ⟨f0,f1,f2,f3,f4,f5,f6⟩:=q1.frozen7;refine Zre 1 [3] rfl (by kernel_rfl) (hSv.out _ hr8) ?_
    (refine tk1 (v:=?_) rfl (Or.inl ⟨by kernel_rfl,?_⟩) ?_;rotate_left;(· intro W2 hSw;(try dsimp only at hSw);go_simp;try with_reducible rfl);try simp only [Act.put,putL_a,putL_z,putL_s,putG_a,putG_s,putG_z])
    refine tk0 ?_;refine Ze (i:=4) rfl (by kernel_rfl) (fun K hK=>?_);go_simp;obtain ⟨Wa,hWa,hBa,qa⟩:=Zgp S6 hB8 (by omega) q1;(try rw [hWa])
    have hfar : ∀ k v,w8.cell? ⟨w.heap.size + 1 + 1,k,none⟩ = some v -> Wa.cell? ⟨w.heap.size + 1 + 1,k,none⟩ = some v:=fun k v h=>by
     rw [<- hWa]
     simp [h,go_sem]
    have hSa:=hSv.out _ hr8;have hSz : Wa.cell? ⟨w.heap.size + 1 + 1,0,none⟩ = some (.int .i64 S6.t) /\ Wa.cell? ⟨w.heap.size + 1 + 1,1,none⟩ = some (.int .i64 S6.p0) /\ Wa.cell? ⟨w.heap.size + 1 + 1,2,none⟩ = some (.int .i64 S6.p1) /\ Wa.cell? ⟨w.heap.size + 1 + 1,3,none⟩ = some (.int .i64 S6.p2) /\ Wa.cell? ⟨w.heap.size + 1 + 1,4,none⟩ = some (.int .i64 S6.v0) /\ Wa.cell? ⟨w.heap.size + 1 + 1,5,none⟩ = some (.int .i64 S6.v1) /\ Wa.cell? ⟨w.heap.size + 1 + 1,6,none⟩ = some (.int .i64 S6.v2):=⟨hfar _ _ hSa.1,hfar _ _ hSa.2.1,hfar _ _ hSa.2.2.1,hfar _ _ hSa.2.2.2.1,hfar _ _ hSa.2.2.2.2.1,hfar _ _ hSa.2.2.2.2.2.1,hfar _ _ hSa.2.2.2.2.2.2⟩;clear hfar hSa;refine hK.out _ _ (fun _=>hSz) ?_;clear hK K
    try simp only [Act.put,putL_a,putL_z,putL_s]
    refine Zrd 1 [5] rfl (by kernel_rfl) hSz ?_
    (refine tk1 (v:=?_) rfl (Or.inl ⟨by kernel_rfl,?_⟩) ?_;rotate_left;(· intro W2 _;go_simp;try with_reducible rfl);try simp only [Act.put,putL_a,putL_z,putL_s,putG_a,putG_s,putG_z])
    refine tk0 ?_;refine Zk (by kernel_rfl) ?_ _;refine OnlyNormal.normal ?_;obtain ⟨y0,y1,y2,y3,y4,y5,y6⟩:=Z3 (show Blk Wa (w.heap.size + 1) 40 #[.int .i64 S6.t,.int .i64 S6.p0,.int .i64 S6.p1,.int .i64 S6.p2,.int .i64 S6.v0,.int .i64 S6.v1,.int .i64 S6.v2] from qa);clear hSz hWa hSv hr hr8 hb8 hxs x0 x1 x2 x3 x4 x5 x6 f0 f1 f2 f3 f4 f5 f6 q1 q2 hq;go_wp2_with fail;refine bodyPost_ret (v:=.tuple #[.agg #[.int .i64 S6.t,.int .i64 S6.p0,.int .i64 S6.p1,.int .i64 S6.p2,.int .i64 S6.v0,.int .i64 S6.v1,.int .i64 S6.v2],.bool false]) (by simp [results,Tryz.results51,go_sem,y0,y1,y2,y3,y4,y5,y6]) rfl ?_;exact ⟨S6,false,rfl,fun h=>absurd h (by decide),fun _=>hM.out,hBa⟩
   case pos =>
    subst h0
    have t0 : ((0 : Int) == 0) = true:=by decide
    have hM:=Za (Zof (s:=s) (dir:=dir) (d:=d) (fun j hj=>hN.out j hj) (by rw [hS6,hE]));rw [hS6] at hM;clear hS6 hE;obtain ⟨q1,q2⟩:=hq.out;replace q1:=Zc hr8 q1;replace q2:=Zc hr8 q2;have hB8:=hBi.out.trans (hr8.mono hBi.out.size);obtain ⟨x0,x1,x2,x3,x4,x5,x6⟩:=Z3 (show Blk w8 (w.heap.size + 1) 40 #[.int .i64 0,.int .i64 0,.int .i64 0,.int .i64 0,.int .i64 0,.int .i64 0,.int .i64 0] from q1);obtain ⟨f0,f1,f2,f3,f4,f5,f6⟩:=q1.frozen7;refine Zre 1 [3] rfl (by kernel_rfl) (hSv.out _ hr8) ?_
    (refine tk1 (v:=?_) rfl (Or.inl ⟨by kernel_rfl,?_⟩) ?_;rotate_left;(· intro W2 hSw;(try dsimp only at hSw);go_simp;try with_reducible rfl);try simp only [Act.put,putL_a,putL_z,putL_s,putG_a,putG_s,putG_z])
    refine tk0 ?_;refine Ze (i:=4) rfl (by kernel_rfl) (fun K hK=>?_);go_simp;obtain ⟨Wa,hWa,hBa,qa⟩:=Zgp S6 hB8 (by omega) q1;(try rw [hWa])
    have hfar : ∀ k v,w8.cell? ⟨w.heap.size + 1 + 1,k,none⟩ = some v -> Wa.cell? ⟨w.heap.size + 1 + 1,k,none⟩ = some v:=fun k v h=>by
     rw [<- hWa]
     simp [h,go_sem]
    have hSa:=hSv.out _ hr8;have hSz : Wa.cell? ⟨w.heap.size + 1 + 1,0,none⟩ = some (.int .i64 S6.t) /\ Wa.cell? ⟨w.heap.size + 1 + 1,1,none⟩ = some (.int .i64 S6.p0) /\ Wa.cell? ⟨w.heap.size + 1 + 1,2,none⟩ = some (.int .i64 S6.p1) /\ Wa.cell? ⟨w.heap.size + 1 + 1,3,none⟩ = some (.int .i64 S6.p2) /\ Wa.cell? ⟨w.heap.size + 1 + 1,4,none⟩ = some (.int .i64 S6.v0) /\ Wa.cell? ⟨w.heap.size + 1 + 1,5,none⟩ = some (.int .i64 S6.v1) /\ Wa.cell? ⟨w.heap.size + 1 + 1,6,none⟩ = some (.int .i64 S6.v2):=⟨hfar _ _ hSa.1,hfar _ _ hSa.2.1,hfar _ _ hSa.2.2.1,hfar _ _ hSa.2.2.2.1,hfar _ _ hSa.2.2.2.2.1,hfar _ _ hSa.2.2.2.2.2.1,hfar _ _ hSa.2.2.2.2.2.2⟩;clear hfar hSa;refine hK.out _ _ (fun _=>hSz) ?_;clear hK K
    try simp only [Act.put,putL_a,putL_z,putL_s]
    refine Zrd 1 [5] rfl (by kernel_rfl) hSz ?_
    (refine tk1 (v:=?_) rfl (Or.inl ⟨by kernel_rfl,?_⟩) ?_;rotate_left;(· intro W2 _;go_simp;try with_reducible rfl);try simp only [Act.put,putL_a,putL_z,putL_s,putG_a,putG_s,putG_z])
    refine tk0 ?_;refine Zk (by kernel_rfl) ?_ _;refine OnlyNormal.normal ?_;obtain ⟨y0,y1,y2,y3,y4,y5,y6⟩:=Z3 (show Blk Wa (w.heap.size + 1) 40 #[.int .i64 S6.t,.int .i64 S6.p0,.int .i64 S6.p1,.int .i64 S6.p2,.int .i64 S6.v0,.int .i64 S6.v1,.int .i64 S6.v2] from qa);clear hSz hWa hSv hr hr8 hb8 hxs x0 x1 x2 x3 x4 x5 x6 f0 f1 f2 f3 f4 f5 f6 q1 q2 hq;go_wp2_with fail;refine bodyPost_ret (v:=.tuple #[.agg #[.int .i64 S6.t,.int .i64 S6.p0,.int .i64 S6.p1,.int .i64 S6.p2,.int .i64 S6.v0,.int .i64 S6.v1,.int .i64 S6.v2],.bool true]) (by simp [results,Tryz.results51,go_sem,y0,y1,y2,y3,y4,y5,y6]) rfl ?_;exact ⟨S6,true,rfl,fun _=>hM.out,fun h=>absurd h (by decide),hBa⟩
  | succ t' =>
   obtain rfl : t' = 6 - (i + 1):=by omega
   have hi6 : i < 6:=by omega
   have t5 : decide ((i : Int) < 6) = true:=decide_eq_true (by omega)
   have bi : (i : Int) < 6:=by omega
   have bi' : (i : Int) < ((6 : Nat) : Int):=by omega
   obtain ⟨g2,o2,fn,fA,fk,fc,fm,fB,fj,fd,rfl,⟨x0,x1,x2,x3⟩,hX⟩:=(hDh.out.below hBi.out).at_ hi6;go_wp2_with fail;have hSv1 : Hid (∀ wx,Below wi.heap.size wi wx -> wx.cell? ⟨g2,o2 + i * 4,none⟩ = some (.bool fn) /\ wx.cell? ⟨g2,o2 + i * 4 + 1,none⟩ = some (.slice fA fk fc) /\ wx.cell? ⟨g2,o2 + i * 4 + 2,none⟩ = some (.bool fm) /\ wx.cell? ⟨g2,o2 + i * 4 + 3,none⟩ = some (.slice fB fj fd)):=Za (fun wx hbx=>⟨Zb hbx x0,Zb hbx x1,Zb hbx x2,Zb hbx x3⟩);have hr1 : Below wi.heap.size wi wi.drew:=Zi (Below.refl _ _) 1;refine wp_heldS [] hmx hSv1 hr1 (fun hxs1=>?_);refine Zre 5 [0,1,2,3,4] rfl (by kernel_rfl) (hSv1.out _ hr1) ?_
   iterate 5 (refine tk1 (v:=?_) rfl (Or.inl ⟨by kernel_rfl,?_⟩) ?_;rotate_left;(· intro W2 hSw;(try dsimp only at hSw);go_simp;try with_reducible rfl);try simp only [Act.put,putL_a,putL_z,putL_s,putG_a,putG_s,putG_z])
   refine tk0 ?_;refine Zdh [(5,27),(6,28),(7,21),(8,29),(10,10)] (fun i=>match i with | 7=>[9] | _=>[]) [(5,27),(6,28),(7,21),(9,30),(8,29),(10,10)] (Zfk 5 (d : Rat) (Zar wi.heap.size (dir[i]?.getD 0 * (d : Rat)) 6 7 8 9 10 9)) 2 (by kernel_rfl) (fun _ _ _ _ _ hb h=>Zni (fun _ _ _ _ hb h=>Zem hb h) hb h) (fun wx h=>hSv1.out _ (hr1.trans (h.mono hr1.size))) ?hop1 ?hfin1
   case hop1 =>
    intro p hp;simp only [List.mem_cons,List.not_mem_nil,or_false] at hp;simp only [List.map_cons,List.map_nil,Zap,Act.put,putL_a,putL_z,putL_s]
    rcases hp with rfl | rfl | rfl | rfl | rfl
    ·intro ν wx hb hP
     have hbx:=hr1.trans (hb.mono hr1.size);refine Zal (i:=5) rfl (fun K hK=>?_);go_simp;refine (hWh.out wx).mono ?_;rintro e w5 ⟨hb5,na5,A5,k5,c5,nb5,B5,m5,d5,rfl,hf5⟩;exact hK.out _ _ ⟨_,rfl,(by simp only [Zfk,if_true];exact ⟨_,_,_,_,_,_,_,_,rfl,hf5⟩),hb5,trivial⟩
    ·intro ν wx hb hP
     have hbx:=hr1.trans (hb.mono hr1.size);have h9:=hP (5,27) (by simp) (by kernel_rfl);simp only [Zfk,if_true] at h9;obtain ⟨un,uA,uk,uc,um,uB,uj,ud,hνu,hfu⟩:=h9;rw [hνu];refine Zal (i:=6) rfl (fun K hK=>?_);go_simp;refine (Zi9 fn fm un um fA fB uA uB fk fc fj fd uk uc uj ud _ _ wx (hX.below hbx) hfu (hS.out.2 i).1 hS.out.1).mono ?_;rintro e w5 ⟨hb5,na5,A5,k5,c5,nb5,B5,m5,d5,rfl,hf5⟩;exact hK.out _ _ ⟨_,rfl,(by simp only [Zfk,Zar];exact ⟨_,_,_,_,_,_,_,_,rfl,hf5⟩),hb5,trivial⟩
    ·intro ν wx hb hP
     have h0:=hP (6,28) (by simp) (by kernel_rfl);simp only [Zfk,Zar] at h0;obtain ⟨na5,A5,k5,c5,nb5,B5,m5,d5,hν,hf5⟩:=h0;rw [hν];refine Zal (i:=7) rfl (fun K hK=>?_);go_simp;refine hK.out _ _ ⟨_,rfl,(by simp only [Zfk,Zar];exact ⟨_,_,_,_,_,_,_,_,rfl,hf5⟩),Below.refl _ _,?_⟩;exact ⟨_,.int .i64 0,rfl,Or.inl ⟨by kernel_rfl,fun W2 _=>by go_simp⟩,by simp [Zfk,Zar],trivial⟩
    ·intro ν wx hb hP
     have h0:=hP (7,21) (by simp) (by kernel_rfl);simp only [Zfk,Zar] at h0;obtain ⟨na5,A5,k5,c5,nb5,B5,m5,d5,hν,hf5⟩:=h0;rw [hν];refine Zal (i:=8) rfl (fun K hK=>?_);go_simp;exact hK.out _ _ ⟨_,rfl,(by simp only [Zfk,Zar];exact ⟨_,_,_,_,_,_,_,_,rfl,hf5⟩),Below.refl _ _,trivial⟩
    ·intro ν wx hb hP
     refine Zal (i:=10) rfl (fun K hK=>?_);go_simp;exact hK.out _ _ ⟨_,rfl,(by simp only [Zfk,Zar];exact ⟨_,rfl,hb.size,Blk.new _ _ _⟩),(Below.refl _ _).alloc (Nat.le_refl _) _,trivial⟩
   case hfin1 =>
    intro ν wx hb hP;have h0:=hP (6,28) (by simp);have h1:=hP (7,21) (by simp);have h2:=hP (8,29) (by simp);have h3:=hP (9,30) (by simp);have h4:=hP (10,10) (by simp);have h9:=hP (5,27) (by simp);simp only [Zfk,Zar] at h0 h1 h2 h4 h9;obtain ⟨a0,a1,a2,a3,a4,a5,a6,a7,h0,-⟩:=h0;obtain ⟨b0',b1',b2',b3',b4',b5',b6',b7',h1,-⟩:=h1;obtain ⟨bbn,bbA,bbk,bbc,bbm,bbB,bbj,bbd,h2,bbf⟩:=h2;obtain ⟨gbb,h4,kv,qv⟩:=h4;obtain ⟨e0',e1',e2',e3',e4',e5',e6',e7',h9,-⟩:=h9;simp only [List.map_cons,List.map_nil,Zap,Act.put,putL_a,putL_z,putL_s];rw [h9,h0,h1,h2,(show ν 30 = Value.int .i64 0 by simpa [Zfk,Zar] using h3),h4];clear h0 h1 h2 h3 h4 h9 hP ν;have hbx:=hr1.trans (hb.mono hr1.size);have qv4:=qv.four;have kv2 : wi.heap.size <= gbb:=kv;refine (Zac bbn bbA bbk bbc bbm bbB bbj bbd hbx kv2 qv).elim (fun Zbb hq=>?_);have c0:=qv4.1;have c1':=qv4.2.1;have c2':=qv4.2.2.1;have c3:=qv4.2.2.2.1;have f0:=qv4.2.2.2.2.1;have f1:=qv4.2.2.2.2.2.1;have f2:=qv4.2.2.2.2.2.2.1;have f3:=qv4.2.2.2.2.2.2.2;have hZ:=hq.1;refine Ze (i:=11) rfl (by kernel_rfl) (fun K hK=>?_);go_simp;(try rw [hZ]);refine hK.out _ _ (fun _=>hSv1.out _ hq.2.1) ?_;clear hK K
    try simp only [Act.put,putL_a,putL_z,putL_s]
    refine Zrd 1 [12] rfl (by kernel_rfl) (hSv1.out _ hq.2.1) ?_
    (refine tk1 (v:=?_) rfl (Or.inl ⟨by kernel_rfl,?_⟩) ?_;rotate_left;(· intro W2 _;go_simp;try with_reducible rfl);try simp only [Act.put,putL_a,putL_z,putL_s,putG_a,putG_s,putG_z])
    refine tk0 ?_;refine Zk (by kernel_rfl) ?_ _;refine OnlyNormal.normal ?_;have hbZbb:=hq.2.1;have bbb:=Za hq.2.2.1;replace bbf:=Za (Fr.keep bbf hq.2.2.2.1);clear hq hZ c0 c1' c2' c3 f0 f1 f2 f3 qv4 qv kv hbx hb hr1 hSv1 hxs1;obtain ⟨z0,z1,z2,z3,-⟩:=bbb.out.four;obtain ⟨q0,q1,q2⟩:=hq.out;have sZ:=hbZbb.size;replace q0:=Zc hbZbb q0;replace q1:=Zc hbZbb q1;replace q2:=Zc hbZbb q2;have hB6:=Za (hBi.out.trans (hbZbb.mono hBi.out.size));clear hq x0 x1 x2 x3 hX hbZbb;have hq:=Za (And.intro q0 (And.intro q1 q2));clear q0 q1 q2;go_wp2_with fail;refine (Zpb bbn bbm bbA bbB bbk bbc bbj bbd _ Zbb bbf.out (hS.out.2 i).2).mono ?_;rintro e w7 ⟨hb7,nz,Az,kz,cz,rfl,hZ⟩;obtain ⟨q0,q1,q2⟩:=hq.out;have s7:=hb7.size;replace q0:=(Zc hb7 q0).alloc (.cells #[.bool nz,.slice Az kz cz] 62);replace q1:=(Zc hb7 q1).alloc (.cells #[.bool nz,.slice Az kz cz] 62);replace q2:=(Zc hb7 q2).alloc (.cells #[.bool nz,.slice Az kz cz] 62);have hB7:=(hB6.out.trans (hb7.mono hB6.out.size)).alloc (by have:=hB6.out.size;omega) (.cells #[.bool nz,.slice Az kz cz] 62);have hZ7:=hZ.alloc (.cells #[.bool nz,.slice Az kz cz] 62);obtain ⟨V8,hV8⟩ : ∃ V,w7.alloc (.cells #[.bool nz,.slice Az kz cz] 62) = V:=⟨_,rfl⟩;rw [hV8] at q0 q1 q2 hB7 hZ7;obtain ⟨z,hz⟩ : ∃ z,Zft (dir[i]?.getD 0 * (d : Rat)) = z:=⟨_,rfl⟩;rw [hz] at hZ7;have hzw : Zb1 dir d i = z:=hz;clear hq hb7 hZ hz bbf bbb z0 z1 z2 z3 hB6;have hq:=Za (And.intro q0 (And.intro q1 q2));clear q0 q1 q2;replace hB7:=Za hB7;replace hZ7:=Za hZ7;replace hV8:=Za hV8
    replace hzw:=Za hzw;go_wp2_with fail;rw [hV8.out];refine (rInt_ok nz Az kz cz z V8 hZ7.out).mono ?_;rintro e w9 ⟨rfl,hb9⟩;obtain ⟨q0,q1,q2⟩:=hq.out;replace q0:=Zc hb9 q0;replace q1:=Zc hb9 q1;replace q2:=Zc hb9 q2;have hB9:=hB7.out.trans (hb9.mono hB7.out.size);clear hq hV8 hb9 hZ7 hB7
    by_cases hn : Zbt z
    case neg =>
     have hM:=Za (Zlx (s:=s) (dir:=dir) (d:=d) hi6 (by rw [hzw.out];exact hn));obtain ⟨f0,f1,f2,f3,f4,f5,f6⟩:=q1.frozen7;obtain ⟨x0,x1,x2,x3,x4,x5,x6⟩:=Z3 (show Blk w9 (w.heap.size + 1) 40 #[.int .i64 0,.int .i64 0,.int .i64 0,.int .i64 0,.int .i64 0,.int .i64 0,.int .i64 0] from q1);have hqq:=Za (And.intro hB9 q1);clear hB9 q1 q0 q2 hzw hN
     by_cases hfit : -9223372036854775808 <= z /\ z < 9223372036854775808
     case neg =>
      rw [Zcv hfit,Zcw hfit];clear hfit hn;go_wp2_with fail;obtain ⟨W6,hW6,hB6,q6⟩:=Zbn hqq.out.1 (by omega) hqq.out.2;rw [hW6];obtain ⟨y0,y1,y2,y3,y4,y5,y6⟩:=Z3 (show Blk W6 (w.heap.size + 1) 40 #[.int .i64 0,.int .i64 0,.int .i64 0,.int .i64 0,.int .i64 0,.int .i64 0,.int .i64 0] from q6);refine bodyPost_ret (v:=.tuple #[.agg #[.int .i64 0,.int .i64 0,.int .i64 0,.int .i64 0,.int .i64 0,.int .i64 0,.int .i64 0],.bool false]) (by simp [results,Tryz.results51,go_sem,y0,y1,y2,y3,y4,y5,y6]) rfl ?_;exact ⟨St.zero,false,rfl,fun h=>absurd h (by decide),fun _=>hM.out,hB6⟩
     rw [Zdf hfit,Zde hfit]
     by_cases hgt : 1152921504606846976 < z
     case pos =>
      have t6 : decide (1152921504606846976 < z) = true:=decide_eq_true hgt;clear hfit hn hgt;go_wp2_with fail;obtain ⟨W6,hW6,hB6,q6⟩:=Zbn hqq.out.1 (by omega) hqq.out.2;rw [hW6];obtain ⟨y0,y1,y2,y3,y4,y5,y6⟩:=Z3 (show Blk W6 (w.heap.size + 1) 40 #[.int .i64 0,.int .i64 0,.int .i64 0,.int .i64 0,.int .i64 0,.int .i64 0,.int .i64 0] from q6);refine bodyPost_ret (v:=.tuple #[.agg #[.int .i64 0,.int .i64 0,.int .i64 0,.int .i64 0,.int .i64 0,.int .i64 0,.int .i64 0],.bool false]) (by simp [results,Tryz.results51,go_sem,y0,y1,y2,y3,y4,y5,y6]) rfl ?_;exact ⟨St.zero,false,rfl,fun h=>absurd h (by decide),fun _=>hM.out,hB6⟩
     case neg =>
      have t6 : decide (1152921504606846976 < z) = false:=decide_eq_false hgt;have t7 : decide (z < -1152921504606846976) = true:=decide_eq_true (by unfold Zbt at hn;omega);clear hfit hn hgt;go_wp2_with fail;obtain ⟨W6,hW6,hB6,q6⟩:=Zbn hqq.out.1 (by omega) hqq.out.2;rw [hW6];obtain ⟨y0,y1,y2,y3,y4,y5,y6⟩:=Z3 (show Blk W6 (w.heap.size + 1) 40 #[.int .i64 0,.int .i64 0,.int .i64 0,.int .i64 0,.int .i64 0,.int .i64 0,.int .i64 0] from q6);refine bodyPost_ret (v:=.tuple #[.agg #[.int .i64 0,.int .i64 0,.int .i64 0,.int .i64 0,.int .i64 0,.int .i64 0,.int .i64 0],.bool false]) (by simp [results,Tryz.results51,go_sem,y0,y1,y2,y3,y4,y5,y6]) rfl ?_;exact ⟨St.zero,false,rfl,fun h=>absurd h (by decide),fun _=>hM.out,hB6⟩
    have hfit : -9223372036854775808 <= z /\ z < 9223372036854775808:=by unfold Zbt at hn;omega
    rw [Zdf hfit,Zde hfit];have t6 : decide (1152921504606846976 < z) = false:=decide_eq_false (by unfold Zbt at hn;omega);have t7 : decide (z < -1152921504606846976) = false:=decide_eq_false (by unfold Zbt at hn;omega)
    have hN2 : Hid (∀ j,j < i + 1 -> Zbt (Zb1 dir d j)):=Za (fun j hj=>by
     by_cases e : j = i
     ·subst e;rw [hzw.out];exact hn
     ·exact hN.out j (by omega))
    replace hn:=Za hn;obtain ⟨c0,c1,c2,c3,c4,c5,c6⟩:=Z3 (show Blk w9 w.heap.size 40 #[.int .i64 s.t,.int .i64 s.p0,.int .i64 s.p1,.int .i64 s.p2,.int .i64 s.v0,.int .i64 s.v1,.int .i64 s.v2] from q0);have hq:=Za (And.intro q0 (And.intro q1 q2));clear hfit hN;replace hB9:=Za hB9
    rcases (show i = 0 \/ i = 1 \/ i = 2 \/ i = 3 \/ i = 4 \/ i = 5 by omega) with rfl | rfl | rfl | rfl | rfl | rfl
    case inl =>
   have e1:=q2.cell 1;have e2:=q2.frozen 1;rw [Zd6 s _ (by omega)] at e1;clear q0 q1 q2;go_wp2_with fail;obtain ⟨q0,q1,q2⟩:=hq.out;obtain ⟨W10,hW10,hB10,q2',kW,kB,s10⟩:=Zd9 (.int .i64 (wrap64 (s.p0 + z))) hB9.out (by omega) q2 (St.noLimb _);rw [hW10];replace q0:=kB _ _ _ (by omega) q0;replace q1:=kB _ _ _ (by omega) q1
   have q2'' : Blk W10 (w.heap.size + 1 + 1) 40 (mvS s (Zb1 dir d) 1).cells:=by
    have h:=Zdy s (Zb1 dir d) (show 0 < 6 by omega);rw [hzw.out] at h;exact h ▸ q2'
   have hfin:=Za (And.intro q0 (And.intro q1 q2''));replace hB10:=Za hB10;clear hq hW10 hB9 q0 q1 q2 q2' q2'' kW kB e1 e2
   go_roundg 5
   case measure=>omega
   case rel=>exact ⟨1,by omega,by go_num,hB10,hN2,hfin⟩
    case inr.inl =>
   have e1:=q2.cell 2;have e2:=q2.frozen 2;rw [Zd6 s _ (by omega)] at e1;clear q0 q1 q2;go_wp2_with fail;obtain ⟨q0,q1,q2⟩:=hq.out;obtain ⟨W10,hW10,hB10,q2',kW,kB,s10⟩:=Zd9 (.int .i64 (wrap64 (s.p1 + z))) hB9.out (by omega) q2 (St.noLimb _);rw [hW10];replace q0:=kB _ _ _ (by omega) q0;replace q1:=kB _ _ _ (by omega) q1
   have q2'' : Blk W10 (w.heap.size + 1 + 1) 40 (mvS s (Zb1 dir d) 2).cells:=by
    have h:=Zdy s (Zb1 dir d) (show 1 < 6 by omega);rw [hzw.out] at h;exact h ▸ q2'
   have hfin:=Za (And.intro q0 (And.intro q1 q2''));replace hB10:=Za hB10;clear hq hW10 hB9 q0 q1 q2 q2' q2'' kW kB e1 e2
   go_roundg 4
   case measure=>omega
   case rel=>exact ⟨2,by omega,by go_num,hB10,hN2,hfin⟩
    case inr.inr.inl =>
   have e1:=q2.cell 3;have e2:=q2.frozen 3;rw [Zd6 s _ (by omega)] at e1;clear q0 q1 q2;go_wp2_with fail;obtain ⟨q0,q1,q2⟩:=hq.out;obtain ⟨W10,hW10,hB10,q2',kW,kB,s10⟩:=Zd9 (.int .i64 (wrap64 (s.p2 + z))) hB9.out (by omega) q2 (St.noLimb _);rw [hW10];replace q0:=kB _ _ _ (by omega) q0;replace q1:=kB _ _ _ (by omega) q1
   have q2'' : Blk W10 (w.heap.size + 1 + 1) 40 (mvS s (Zb1 dir d) 3).cells:=by
    have h:=Zdy s (Zb1 dir d) (show 2 < 6 by omega);rw [hzw.out] at h;exact h ▸ q2'
   have hfin:=Za (And.intro q0 (And.intro q1 q2''));replace hB10:=Za hB10;clear hq hW10 hB9 q0 q1 q2 q2' q2'' kW kB e1 e2
   go_roundg 3
   case measure=>omega
   case rel=>exact ⟨3,by omega,by go_num,hB10,hN2,hfin⟩
    case inr.inr.inr.inl =>
   have e1:=q2.cell 4;have e2:=q2.frozen 4;rw [Zd6 s _ (by omega)] at e1;clear q0 q1 q2;go_wp2_with fail;obtain ⟨q0,q1,q2⟩:=hq.out;obtain ⟨W10,hW10,hB10,q2',kW,kB,s10⟩:=Zd9 (.int .i64 (wrap64 (s.v0 + z))) hB9.out (by omega) q2 (St.noLimb _);rw [hW10];replace q0:=kB _ _ _ (by omega) q0;replace q1:=kB _ _ _ (by omega) q1
   have q2'' : Blk W10 (w.heap.size + 1 + 1) 40 (mvS s (Zb1 dir d) 4).cells:=by
    have h:=Zdy s (Zb1 dir d) (show 3 < 6 by omega);rw [hzw.out] at h;exact h ▸ q2'
   have hfin:=Za (And.intro q0 (And.intro q1 q2''));replace hB10:=Za hB10;clear hq hW10 hB9 q0 q1 q2 q2' q2'' kW kB e1 e2
   go_roundg 2
   case measure=>omega
   case rel=>exact ⟨4,by omega,by go_num,hB10,hN2,hfin⟩
    case inr.inr.inr.inr.inl =>
   have e1:=q2.cell 5;have e2:=q2.frozen 5;rw [Zd6 s _ (by omega)] at e1;clear q0 q1 q2;go_wp2_with fail;obtain ⟨q0,q1,q2⟩:=hq.out;obtain ⟨W10,hW10,hB10,q2',kW,kB,s10⟩:=Zd9 (.int .i64 (wrap64 (s.v1 + z))) hB9.out (by omega) q2 (St.noLimb _);rw [hW10];replace q0:=kB _ _ _ (by omega) q0;replace q1:=kB _ _ _ (by omega) q1
   have q2'' : Blk W10 (w.heap.size + 1 + 1) 40 (mvS s (Zb1 dir d) 5).cells:=by
    have h:=Zdy s (Zb1 dir d) (show 4 < 6 by omega);rw [hzw.out] at h;exact h ▸ q2'
   have hfin:=Za (And.intro q0 (And.intro q1 q2''));replace hB10:=Za hB10;clear hq hW10 hB9 q0 q1 q2 q2' q2'' kW kB e1 e2
   go_roundg 1
   case measure=>omega
   case rel=>exact ⟨5,by omega,by go_num,hB10,hN2,hfin⟩
    case inr.inr.inr.inr.inr =>
   have e1:=q2.cell 6;have e2:=q2.frozen 6;rw [Zd6 s _ (by omega)] at e1;clear q0 q1 q2;go_wp2_with fail;obtain ⟨q0,q1,q2⟩:=hq.out;obtain ⟨W10,hW10,hB10,q2',kW,kB,s10⟩:=Zd9 (.int .i64 (wrap64 (s.v2 + z))) hB9.out (by omega) q2 (St.noLimb _);rw [hW10];replace q0:=kB _ _ _ (by omega) q0;replace q1:=kB _ _ _ (by omega) q1
   have q2'' : Blk W10 (w.heap.size + 1 + 1) 40 (mvS s (Zb1 dir d) 6).cells:=by
    have h:=Zdy s (Zb1 dir d) (show 5 < 6 by omega);rw [hzw.out] at h;exact h ▸ q2'
   have hfin:=Za (And.intro q0 (And.intro q1 q2''));replace hB10:=Za hB10;clear hq hW10 hB9 q0 q1 q2 q2' q2'' kW kB e1 e2
   go_roundg 0
   case measure=>omega
   case rel=>exact ⟨6,by omega,by go_num,hB10,hN2,hfin⟩
end Go.Proofs.YtkcbhbddgmkoiaaGreat
