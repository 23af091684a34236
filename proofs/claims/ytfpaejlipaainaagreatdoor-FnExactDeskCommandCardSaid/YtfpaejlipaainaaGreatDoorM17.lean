/- Texts that belong together, joined: contracts and plain laws. No statement is proved here. -/
import Derived.Test.YtfpaejlipaainaaGreatDoorM16
set_option maxRecDepth 100000
set_option maxHeartbeats 4000000
namespace Go.Proofs.YtfpaejlipaainaaGreatDoor
open Go.ChangeShapes Go.WideShapes Go.ChangeAt Go.RowKit Go.Deep
theorem ZkD {K:Exit→Act→World→Prop}{x:Exit}{a:Act}{W:World}{φ:World→Prop}(h:φ W)(k:∀W1,φ W1→K x a W1):K x a W:=k W h
theorem Zih {P:Program}{co:Code}{K:Exit→Act→World→Prop}{a:Act}{W:World}{φ:World→Prop}(h:φ W)(k:∀W1,φ W1→Code.wp P co K a W1):Code.wp P co K a W:=k W h
def ZkZ (w:World)(l:List Heap)(x:Heap)(e:Ending)(w':World):Prop:=∃V,e = .returned V/\Own Heap.cells 106 3 w' w.heap.size V (X2 l x).length (X2 l x)/\Below w.heap.size w w'/\V.ownBlock.isSome=true
theorem ZjF {l:List Heap}{x y:Heap}{k:Nat}(hk:putK l x=k)(hy:l[k]?=some y)(h1:y.fSort=x.fSort)(h2:y.fYear=x.fYear):X2 l x=l.take k++[⟨x.fSort,x.fYear,x.fBundles+y.fBundles⟩]++l.drop (k+1):=by
 have hf:Ym l x=true:=by unfold Ym;rw[hk,hy];exact Wk.2 ⟨h1,h2⟩
 have ha:ZeO l x=⟨x.fSort,x.fYear,x.fBundles+y.fBundles⟩:=by unfold ZeO;rw[hk,hy]
 unfold X2;rw[hf,ha,hk];simp
theorem Zgq {l:List Heap}{x:Heap}{k:Nat}(hk:putK l x=k)(hn:∀y,l[k]?=some y→¬(y.fSort=x.fSort/\y.fYear=x.fYear)):X2 l x=l.take k++[x]++l.drop k:=by
 have hf:Ym l x=false:=by
  unfold Ym;rw[hk];cases hy:l[k]? with
  | none=>rfl
  | some y=>cases h:Qp y x with
   | false=>exact h
   | true=>exact absurd (Wk.1 h) (hn y hy)
 unfold X2;rw[hf,hk];simp
theorem Y1 {w W W':World}{e n:Nat}{v:Value}{l:List Heap}{o:Obj}(hB:Below w.heap.size w W)(hK:W.heap[w.heap.size]?=some o)(ho:Own Heap.cells e 3 W (w.heap.size+1) v n l)(hg:W.grownBy W' v.ownBlock) :
  Below w.heap.size w W'/\W'.heap[w.heap.size]?=some o :=
 ⟨(ho.less (B:=w.heap.size) (by omega)).grown hB hg,(hg.block w.heap.size (Array.getElem?_eq_some_iff.1 hK).1 (λhe=>by have:=(ho.2.lt _ he.symm).1;omega)).trans hK⟩
theorem Zk7 {w:World}{k:Nat}{cs:Array Value}{t:TypeId}(h:w.heap[k]?=some (.cells cs t (0,0)))(i:Nat)(u:Value):(w.setCell ⟨k,i,none⟩ u).heap[k]?=some (.cells (cs.setIfInBounds i u) t (0,0)):=by
 simp[World.setCell,Array.getElem?_modify,h]
theorem Zk5 (w:World)(k i:Nat)(u:Value):w.grownBy (w.setCell ⟨k,i,none⟩ u) (some k):=Z4 (World.grownBy.refl _ _) (p:=⟨k,i,none⟩) rfl u
theorem Zdz (b o n c:Nat)(l:List Heap)(x:Heap)(w:World)(hn:n<=90000)(hnc:n<=c)(hr0:Arr Heap.cells 3 w w.heap.size (some ⟨b,o,none⟩) n l)
  (hbl:∀y∈l,0<=y.fBundles/\y.fBundles<=1000000000) (hbx:0<=x.fBundles/\x.fBundles<=1000000000) :
  Calls Tryz.prog 214 #[.slice (some ⟨b,o,none⟩) n c,.agg #[.string x.fSort,.int .i64 x.fYear,.int .i64 x.fBundles]] w λe w'=>ZkZ w l x e w':=by
 have hr:=Za hr0;have hll:Hid (l.length=n):=Za hr0.len;have hK0:=Za (heap_alloc_new w (.cells #[.string x.fSort,.int .i64 x.fYear,.int .i64 x.fBundles] 106));have hB0:Hid (Below w.heap.size w (w.alloc (.cells #[.string x.fSort,.int .i64 x.fYear,.int .i64 x.fBundles] 106))):=Za ((Below.refl _ _).alloc (Nat.le_refl _) _);clear hr0;go_enter Tryz.func214,Tryz.ntmps214;go_wp2
 go_loopw [5] (λi wr=>∃j:Nat,j<=n/\i = .int .i64 j/\Below w.heap.size w wr/\wr.heap[w.heap.size]?=some (.cells #[.string x.fSort,.int .i64 x.fYear,.int .i64 x.fBundles] 106 (0,0))/\Hid (∀(i:Nat) z,i<j→l[i]?=some z→hLt z x=true)) (λi _=>n-(intOf i).toNat)
 case atStart=>exact⟨0,Nat.zero_le _,rfl,hB0.out,hK0.out,Za (λi z hi=>absurd hi (by omega))⟩
 case round =>
  clear hB0 hK0;obtain⟨j,hj,rfl,hb,hk,hI⟩:=hrel;have hB:=Za hb;have hK:=Za hk;clear hb hk;obtain⟨x0,x1,x2,xf⟩:=V2 hK.out;by_cases hlt:j<n
  ·have hlt':(j:Int)<(n:Int):=by omega
   have hj0:(0:Int)<=(j:Int):=by omega
   obtain⟨b',o',y,hA',hbl',hy,c0,c1,c2⟩:=hr.out.Heap (k:=j) hlt;cases hA'
   have d0:wr.cell? ⟨b,o+j*3,none⟩=some (.string y.fSort):=(hB.out.cell (p:=⟨b,o+j*3,none⟩) hbl').trans c0;have d1:wr.cell? ⟨b,o+j*3+1,none⟩=some (.int .i64 y.fYear):=(hB.out.cell (p:=⟨b,o+j*3+1,none⟩) hbl').trans c1;have d2:wr.cell? ⟨b,o+j*3+2,none⟩=some (.int .i64 y.fBundles):=(hB.out.cell (p:=⟨b,o+j*3+2,none⟩) hbl').trans c2;have hY:=Za hy;have hyb:=hbl y (List.mem_of_getElem? hy);clear hy;cases hq:hLt y x
   ·have hQ:=Za hq
    clear hq;have hput:Hid (putK l x=j):=Za (Qy l x j (by rw[hll.out];omega) hI.out (λz hz=>by rw[hY.out] at hz;cases hz;exact hQ.out));by_cases h1:y.fSort=x.fSort
    ·by_cases h2:y.fYear=x.fYear
     ·skip
      have s1:=XG h1;have s2:(y.fYear==x.fYear)=true:=by rw[h2];simp
      have hres:=Za (ZjF hput.out hY.out h1 h2);have hwr:IntKind.i64.wrap (x.fBundles+y.fBundles)=x.fBundles+y.fBundles:=IntWalk.i64_in _ (by omega);have hsz:w.heap.size+1<=wr.heap.size:=(Array.getElem?_eq_some_iff.1 hK.out).1;have hO1:=Za (λD=>Own.none_made (cells:=Heap.cells) (e:=106) (s:=3) (wr.drewN D) hsz);have hbW:=Za (λD=>(Zb (Below.refl wr.heap.size wr) D).alloc (Nat.le_refl wr.heap.size) (.cells #[] 106));have hB1:=Za (λD=>Below.up hB.out (hbW.out D));have hK1:=Za (λD=>Ya hK.out (hbW.out D));have hhead:=λW=>Wn (P:=Tryz.prog) Tryz.underlying27 Zt b o n c j (by omega) W
      have hcut:=λW=>Y0 (P:=Tryz.prog) Tryz.underlying27 Zt (some ⟨b,o,none⟩) n c (j+1) (by omega) W
      rw[show(((j+1:Nat)):Int)=(j:Int)+1 by omega] at hcut;have j2:decide ((j:Int)<(n:Int))=true:=decide_eq_true hlt';go_wp2_with (first|(go_at_call 137;refine(YZ b (o+j*3) w.heap.size 0 y x _ d0 d1 x0 x1).mono ?_;rw[hQ.out];rintro e w1 ⟨rfl,nq,rfl⟩)|(at_builtin;refine Z1 rfl (.tmp 19) (.tmp 22) rfl Tryz.underlying27 Zt rfl (by omega) (by omega) Heap.len Heap.one rfl (hO1.out _) rfl ((hr.out.head hj).below (hB1.out _)) (by omega) (by exact Nat.le_trans hsz (hbW.out _).size) ?_;intro v6 w6 ho6 hg6 hat6;have hP6:=Za (Y1 (hB1.out _) (hK1.out _) (hO1.out _) hg6);have hs6:=ZR hat6 rfl;rw[Nat.zero_add,List.nil_append] at ho6;have hO6:=Za ho6;clear ho6 hg6 hat6;obtain⟨y0,y1,y2,yf⟩:=V2 hP6.out.2;have d0':=(hP6.out.1.cell (p:=⟨b,o+j*3,none⟩) hbl').trans ((hB.out.cell (p:=⟨b,o+j*3,none⟩) hbl').symm.trans d0);have d1':=(hP6.out.1.cell (p:=⟨b,o+j*3+1,none⟩) hbl').trans ((hB.out.cell (p:=⟨b,o+j*3+1,none⟩) hbl').symm.trans d1);have d2':=(hP6.out.1.cell (p:=⟨b,o+j*3+2,none⟩) hbl').trans ((hB.out.cell (p:=⟨b,o+j*3+2,none⟩) hbl').symm.trans d2)))
      go_quiet (fail)
      go_wp2
      go_region
      all_goals
       (refine ZkD (φ:=λW=>Below w.heap.size w W/\W.heap[w.heap.size]?=some (.cells #[.string x.fSort,.int .i64 x.fYear,.int .i64 (x.fBundles+y.fBundles)] 106 (0,0))/\Own Heap.cells 106 3 W (w.heap.size+1) v6 j (l.take j)) ⟨(Zb hP6.out.1 _).setCell (p:=⟨w.heap.size,2,none⟩) (Nat.le_refl _) _,Zk7 (Ya hP6.out.2 (Zb (Below.refl _ _) _)) 2 _,(hO6.out.below (Zb (Below.refl _ _) _)).kept (Zk5 _ w.heap.size 2 _) (.inr (λhe=>by have:=(hO6.out.2.lt _ he).1;omega))⟩ ?_
        rintro w7⟨hb7,hk7,ho7⟩;obtain⟨z0,z1,z2,zf⟩:=V2 hk7;have hB7:=Za hb7;have hK7:=Za hk7;have hO7:=Za ho7;have hz7:Hid (w.heap.size+1<=w7.heap.size):=Za (Array.getElem?_eq_some_iff.1 hk7).1;have hC:=Za (hr.out.cut (k:=j+1) (cap:=c) (by omega) hnc);clear hb7 hk7 ho7 y0 y1 y2 yf x0 x1 x2 xf d0 d1 d2 d0' d1' d2';go_wp2_with (first|(at_builtin;refine Zp w7.heap.size rfl rfl (.tmp 59) (.tmp 61) rfl Tryz.underlying27 Zt rfl (by omega) (by omega) Heap.len Heap.one rfl hO7.out (⟨x.fSort,x.fYear,x.fBundles+y.fBundles⟩:Heap) _ rfl rfl (by omega) hz7.out ?_;intro v8 w8 ho8 hg8 hat8;have hP8:=Za (Y1 hB7.out hK7.out hO7.out hg8);have hs8:=ZR hat8 hs6;have hz8:=Za (Nat.le_trans hz7.out hg8.size);have hO8:=Za ho8;clear ho8 hg8 hat8)|(at_builtin;refine Z1 rfl (.tmp 63) (.tmp 66) rfl Tryz.underlying27 Zt rfl (by omega) (by omega) Heap.len Heap.one rfl hO8.out rfl (hC.out.below hP8.out.1) (by omega) hz8.out ?_;intro v9 w9 ho9 hg9 hat9;have hP9:=Za (Y1 hP8.out.1 hP8.out.2 hO8.out hg9);have hs9:=ZR hat9 hs8;have hO9:=Za ho9;clear ho9 hg9 hat9))
        go_ret;refine⟨v9,rfl,?_,hP9.out.1,hs9⟩;have hlen:(X2 l x).length=j+1+(n-(j+1)):=by rw[hres.out];simp[hll.out];omega
        rw[hlen,hres.out];exact hO9.out.less (by omega))
     ·skip
      have s1:=XG h1;have s2:(y.fYear==x.fYear)=false:=by simp;exact h2
      have hres:=Za (Zgq hput.out (λz hz e=>by rw[hY.out] at hz;cases hz;exact h2 e.2));have hsz:w.heap.size+1<=wr.heap.size:=(Array.getElem?_eq_some_iff.1 hK.out).1;have hO1:=Za (λD=>Own.none_made (cells:=Heap.cells) (e:=106) (s:=3) (wr.drewN D) hsz);have hbW:=Za (λD=>(Zb (Below.refl wr.heap.size wr) D).alloc (Nat.le_refl wr.heap.size) (.cells #[] 106));have hB1:=Za (λD=>Below.up hB.out (hbW.out D));have hK1:=Za (λD=>Ya hK.out (hbW.out D));have hhead:=λW=>Wn (P:=Tryz.prog) Tryz.underlying27 Zt b o n c j (by omega) W
      have hcut:=λW=>Y0 (P:=Tryz.prog) Tryz.underlying27 Zt (some ⟨b,o,none⟩) n c (j) (by omega) W
      have j2:decide ((j:Int)<(n:Int))=true:=decide_eq_true hlt';go_wp2_with (first|(go_at_call 137;refine(YZ b (o+j*3) w.heap.size 0 y x _ d0 d1 x0 x1).mono ?_;rw[hQ.out];rintro e w1 ⟨rfl,nq,rfl⟩)|(at_builtin;refine Z1 rfl (.tmp 19) (.tmp 22) rfl Tryz.underlying27 Zt rfl (by omega) (by omega) Heap.len Heap.one rfl (hO1.out _) rfl ((hr.out.head hj).below (hB1.out _)) (by omega) (by exact Nat.le_trans hsz (hbW.out _).size) ?_;intro v6 w6 ho6 hg6 hat6;have hP6:=Za (Y1 (hB1.out _) (hK1.out _) (hO1.out _) hg6);have hs6:=ZR hat6 rfl;rw[Nat.zero_add,List.nil_append] at ho6;have hO6:=Za ho6;clear ho6 hg6 hat6;obtain⟨y0,y1,y2,yf⟩:=V2 hP6.out.2;have d0':=(hP6.out.1.cell (p:=⟨b,o+j*3,none⟩) hbl').trans ((hB.out.cell (p:=⟨b,o+j*3,none⟩) hbl').symm.trans d0);have d1':=(hP6.out.1.cell (p:=⟨b,o+j*3+1,none⟩) hbl').trans ((hB.out.cell (p:=⟨b,o+j*3+1,none⟩) hbl').symm.trans d1);have d2':=(hP6.out.1.cell (p:=⟨b,o+j*3+2,none⟩) hbl').trans ((hB.out.cell (p:=⟨b,o+j*3+2,none⟩) hbl').symm.trans d2)))
      go_quiet (fail)
      go_upto_region 8 with fail
      (refine Zih (φ:=λW=>Below w.heap.size w W/\W.heap[w.heap.size]?=some (.cells #[.string x.fSort,.int .i64 x.fYear,.int .i64 x.fBundles] 106 (0,0))/\Own Heap.cells 106 3 W (w.heap.size+1) v6 j (l.take j)) ⟨Zb hP6.out.1 _,Ya hP6.out.2 (Zb (Below.refl _ _) _),hO6.out.below (Zb (Below.refl _ _) _)⟩ ?_
       rintro w7⟨hb7,hk7,ho7⟩;obtain⟨z0,z1,z2,zf⟩:=V2 hk7;have hB7:=Za hb7;have hK7:=Za hk7;have hO7:=Za ho7;have hz7:Hid (w.heap.size+1<=w7.heap.size):=Za (Array.getElem?_eq_some_iff.1 hk7).1;have hC:=Za (hr.out.cut (k:=j) (cap:=c) (by omega) hnc);clear hb7 hk7 ho7 y0 y1 y2 yf x0 x1 x2 xf d0 d1 d2 d0' d1' d2';go_wp2_with (first|(at_builtin;refine Zp w7.heap.size rfl rfl (.tmp 59) (.tmp 61) rfl Tryz.underlying27 Zt rfl (by omega) (by omega) Heap.len Heap.one rfl hO7.out x _ rfl rfl (by omega) hz7.out ?_;intro v8 w8 ho8 hg8 hat8;have hP8:=Za (Y1 hB7.out hK7.out hO7.out hg8);have hs8:=ZR hat8 hs6;have hz8:=Za (Nat.le_trans hz7.out hg8.size);have hO8:=Za ho8;clear ho8 hg8 hat8)|(at_builtin;refine Z1 rfl (.tmp 63) (.tmp 66) rfl Tryz.underlying27 Zt rfl (by omega) (by omega) Heap.len Heap.one rfl hO8.out rfl (hC.out.below hP8.out.1) (by omega) hz8.out ?_;intro v9 w9 ho9 hg9 hat9;have hP9:=Za (Y1 hP8.out.1 hP8.out.2 hO8.out hg9);have hs9:=ZR hat9 hs8;have hO9:=Za ho9;clear ho9 hg9 hat9))
       go_ret;refine⟨v9,rfl,?_,hP9.out.1,hs9⟩;have hlen:(X2 l x).length=j+1+(n-(j)):=by rw[hres.out];simp[hll.out];omega
       rw[hlen,hres.out];exact hO9.out.less (by omega))
    ·skip
     have s1:=Xn h1;have hres:=Za (Zgq hput.out (λz hz e=>by rw[hY.out] at hz;cases hz;exact h1 e.1));have hsz:w.heap.size+1<=wr.heap.size:=(Array.getElem?_eq_some_iff.1 hK.out).1;have hO1:=Za (λD=>Own.none_made (cells:=Heap.cells) (e:=106) (s:=3) (wr.drewN D) hsz);have hbW:=Za (λD=>(Zb (Below.refl wr.heap.size wr) D).alloc (Nat.le_refl wr.heap.size) (.cells #[] 106));have hB1:=Za (λD=>Below.up hB.out (hbW.out D));have hK1:=Za (λD=>Ya hK.out (hbW.out D));have hhead:=λW=>Wn (P:=Tryz.prog) Tryz.underlying27 Zt b o n c j (by omega) W
     have hcut:=λW=>Y0 (P:=Tryz.prog) Tryz.underlying27 Zt (some ⟨b,o,none⟩) n c (j) (by omega) W
     have j2:decide ((j:Int)<(n:Int))=true:=decide_eq_true hlt';go_wp2_with (first|(go_at_call 137;refine(YZ b (o+j*3) w.heap.size 0 y x _ d0 d1 x0 x1).mono ?_;rw[hQ.out];rintro e w1 ⟨rfl,nq,rfl⟩)|(at_builtin;refine Z1 rfl (.tmp 19) (.tmp 22) rfl Tryz.underlying27 Zt rfl (by omega) (by omega) Heap.len Heap.one rfl (hO1.out _) rfl ((hr.out.head hj).below (hB1.out _)) (by omega) (by exact Nat.le_trans hsz (hbW.out _).size) ?_;intro v6 w6 ho6 hg6 hat6;have hP6:=Za (Y1 (hB1.out _) (hK1.out _) (hO1.out _) hg6);have hs6:=ZR hat6 rfl;rw[Nat.zero_add,List.nil_append] at ho6;have hO6:=Za ho6;clear ho6 hg6 hat6;obtain⟨y0,y1,y2,yf⟩:=V2 hP6.out.2;have d0':=(hP6.out.1.cell (p:=⟨b,o+j*3,none⟩) hbl').trans ((hB.out.cell (p:=⟨b,o+j*3,none⟩) hbl').symm.trans d0);have d1':=(hP6.out.1.cell (p:=⟨b,o+j*3+1,none⟩) hbl').trans ((hB.out.cell (p:=⟨b,o+j*3+1,none⟩) hbl').symm.trans d1);have d2':=(hP6.out.1.cell (p:=⟨b,o+j*3+2,none⟩) hbl').trans ((hB.out.cell (p:=⟨b,o+j*3+2,none⟩) hbl').symm.trans d2)))
     go_quiet (fail)
     go_upto_region 8 with fail
     (refine Zih (φ:=λW=>Below w.heap.size w W/\W.heap[w.heap.size]?=some (.cells #[.string x.fSort,.int .i64 x.fYear,.int .i64 x.fBundles] 106 (0,0))/\Own Heap.cells 106 3 W (w.heap.size+1) v6 j (l.take j)) ⟨Zb hP6.out.1 _,Ya hP6.out.2 (Zb (Below.refl _ _) _),hO6.out.below (Zb (Below.refl _ _) _)⟩ ?_
      rintro w7⟨hb7,hk7,ho7⟩;obtain⟨z0,z1,z2,zf⟩:=V2 hk7;have hB7:=Za hb7;have hK7:=Za hk7;have hO7:=Za ho7;have hz7:Hid (w.heap.size+1<=w7.heap.size):=Za (Array.getElem?_eq_some_iff.1 hk7).1;have hC:=Za (hr.out.cut (k:=j) (cap:=c) (by omega) hnc);clear hb7 hk7 ho7 y0 y1 y2 yf x0 x1 x2 xf d0 d1 d2 d0' d1' d2';go_wp2_with (first|(at_builtin;refine Zp w7.heap.size rfl rfl (.tmp 59) (.tmp 61) rfl Tryz.underlying27 Zt rfl (by omega) (by omega) Heap.len Heap.one rfl hO7.out x _ rfl rfl (by omega) hz7.out ?_;intro v8 w8 ho8 hg8 hat8;have hP8:=Za (Y1 hB7.out hK7.out hO7.out hg8);have hs8:=ZR hat8 hs6;have hz8:=Za (Nat.le_trans hz7.out hg8.size);have hO8:=Za ho8;clear ho8 hg8 hat8)|(at_builtin;refine Z1 rfl (.tmp 63) (.tmp 66) rfl Tryz.underlying27 Zt rfl (by omega) (by omega) Heap.len Heap.one rfl hO8.out rfl (hC.out.below hP8.out.1) (by omega) hz8.out ?_;intro v9 w9 ho9 hg9 hat9;have hP9:=Za (Y1 hP8.out.1 hP8.out.2 hO8.out hg9);have hs9:=ZR hat9 hs8;have hO9:=Za ho9;clear ho9 hg9 hat9))
      go_ret;refine⟨v9,rfl,?_,hP9.out.1,hs9⟩;have hlen:(X2 l x).length=j+1+(n-(j)):=by rw[hres.out];simp[hll.out];omega
      rw[hlen,hres.out];exact hO9.out.less (by omega))
   ·have hQ:=Za hq
    clear hq;go_wp2_with ((go_at_call 137;refine(YZ b (o+j*3) w.heap.size 0 y x _ d0 d1 x0 x1).mono ?_;rw[hQ.out];rintro e w1 ⟨rfl,nq,rfl⟩))
    go_roundw
    case rel=>exact⟨j+1,by omega,by go_num,Below.up hB.out (Zb (Below.refl _ _) _),Ya hK.out (Zb (Below.refl _ _) _),Za (λi z hi hz=>by by_cases he:i=j;subst he;rw[hY.out] at hz;cases hz;exact hQ.out;exact hI.out i z (by omega) hz)⟩
    case measure=>simp[intOf];omega
  ·have hjn:=Za (show j=n by omega)
   have hput:Hid (putK l x=j):=Za (Qy l x j (by rw[hll.out];exact hj) hI.out (λz hz=>absurd (Zq hz) (by rw[hll.out];have:=hjn.out;omega)));have hres:=Za (Zgq hput.out (λz hz=>absurd (Zq hz) (by rw[hll.out];have:=hjn.out;omega)));have hsz:w.heap.size+1<=wr.heap.size:=(Array.getElem?_eq_some_iff.1 hK.out).1;have hO1:=Za (Own.none_made (cells:=Heap.cells) (e:=106) (s:=3) wr hsz);have hbW:=Za ((Below.refl wr.heap.size wr).alloc (Nat.le_refl wr.heap.size) (.cells #[] 106));have hB1:=Za (Below.up hB.out hbW.out);have hK1:=Za (Ya hK.out hbW.out);have hhead:=λW=>Wn (P:=Tryz.prog) Tryz.underlying27 Zt b o n c j (by omega) W
   have hcut:=λW=>Y0 (P:=Tryz.prog) Tryz.underlying27 Zt (some ⟨b,o,none⟩) n c (j) (by omega) W
   have j2:decide ((j:Int)<(n:Int))=false:=decide_eq_false (by have:=hjn.out;omega);go_wp2_with ((at_builtin;refine Z1 rfl (.tmp 19) (.tmp 22) rfl Tryz.underlying27 Zt rfl (by omega) (by omega) Heap.len Heap.one rfl hO1.out rfl ((hr.out.head hj).below hB1.out) (by omega) (by exact Nat.le_trans hsz hbW.out.size) ?_;intro v6 w6 ho6 hg6 hat6;have hP6:=Za (Y1 hB1.out hK1.out hO1.out hg6);have hs6:=ZR hat6 rfl;rw[Nat.zero_add,List.nil_append] at ho6;have hO6:=Za ho6;clear ho6 hg6 hat6;obtain⟨y0,y1,y2,yf⟩:=V2 hP6.out.2))
   go_quiet (fail)
   go_upto_region 8 with fail
   (refine Zih (φ:=λW=>Below w.heap.size w W/\W.heap[w.heap.size]?=some (.cells #[.string x.fSort,.int .i64 x.fYear,.int .i64 x.fBundles] 106 (0,0))/\Own Heap.cells 106 3 W (w.heap.size+1) v6 j (l.take j)) ⟨Zb hP6.out.1 _,Ya hP6.out.2 (Zb (Below.refl _ _) _),hO6.out.below (Zb (Below.refl _ _) _)⟩ ?_
    rintro w7⟨hb7,hk7,ho7⟩;obtain⟨z0,z1,z2,zf⟩:=V2 hk7;have hB7:=Za hb7;have hK7:=Za hk7;have hO7:=Za ho7;have hz7:Hid (w.heap.size+1<=w7.heap.size):=Za (Array.getElem?_eq_some_iff.1 hk7).1;have hC:=Za (hr.out.cut (k:=j) (cap:=c) (by omega) hnc);clear hb7 hk7 ho7 y0 y1 y2 yf x0 x1 x2 xf;go_wp2_with (first|(at_builtin;refine Zp w7.heap.size rfl rfl (.tmp 59) (.tmp 61) rfl Tryz.underlying27 Zt rfl (by omega) (by omega) Heap.len Heap.one rfl hO7.out x _ rfl rfl (by omega) hz7.out ?_;intro v8 w8 ho8 hg8 hat8;have hP8:=Za (Y1 hB7.out hK7.out hO7.out hg8);have hs8:=ZR hat8 hs6;have hz8:=Za (Nat.le_trans hz7.out hg8.size);have hO8:=Za ho8;clear ho8 hg8 hat8)|(at_builtin;refine Z1 rfl (.tmp 63) (.tmp 66) rfl Tryz.underlying27 Zt rfl (by omega) (by omega) Heap.len Heap.one rfl hO8.out rfl (hC.out.below hP8.out.1) (by omega) hz8.out ?_;intro v9 w9 ho9 hg9 hat9;have hP9:=Za (Y1 hP8.out.1 hP8.out.2 hO8.out hg9);have hs9:=ZR hat9 hs8;have hO9:=Za ho9;clear ho9 hg9 hat9))
    go_ret;refine⟨v9,rfl,?_,hP9.out.1,hs9⟩;have hlen:(X2 l x).length=j+1+(n-(j)):=by rw[hres.out];simp[hll.out];omega
    rw[hlen,hres.out];exact hO9.out.less (by omega))
def Far2 (a b:Value):Prop:=∀g,a.ownBlock=some g→b.ownBlock≠some g
theorem Far2.symm {a b:Value}(h:Far2 a b):Far2 b a:=λg hb ha=>h g ha hb
theorem Far2.ne {a b:Value}(h:Far2 a b):a.ownBlock=none\/a.ownBlock≠b.ownBlock:=by
 cases ha:a.ownBlock with
 | none=>exact .inl rfl
 | some g=>exact .inr (λe=>h g ha e.symm)
theorem Own.lt2 {α:Type}{cells:α→List Value}{e s:Nat}{w:World}{base:Nat}{v:Value}{n:Nat}{l:List α}(h:Own cells e s w base v n l):∀g,v.ownBlock=some g→base<=g/\g<w.heap.size:=h.2.lt
theorem Far2.moved {α:Type}{cells:α→List Value}{e s:Nat}{w:World}{base:Nat}{v v' u:Value}{n:Nat}{l:List α}{H:Nat}(hv:Far2 v v')(h:Own cells e s w base v' n l)(hat:u.ownBlock=v.ownBlock\/u.ownBlock=some H)(hH:w.heap.size<=H):Far2 u v':=by
 intro g h1 h2;rcases hat with e|e
 ·rw[e] at h1;exact hv g h1 h2
 ·rw[e] at h1
  injection h1 with h1
  have:=(h.lt2 g h2).2;omega
theorem Far2.new {α:Type}{cells:α→List Value}{e s:Nat}{w:World}{base:Nat}{v v':Value}{n:Nat}{l:List α}{H:Nat}(h:Own cells e s w base v' n l)(hv:v.ownBlock=some H)(hH:w.heap.size<=H):Far2 v v':=by
 intro g h1 h2;rw[hv] at h1;injection h1 with h1
 have:=(h.lt2 g h2).2;omega
theorem Zbc {l:List Heap}(h:ZE l=true):Srt l:=by
 unfold ZE at h;rw[Bool.and_eq_true,List.all_eq_true] at h;have step:∀(k:Nat) (a b:Heap),l[k]?=some a→l[k+1]?=some b→hLt a b=true:=by
  intro k a b ha hb;have h1:=h.1 (k+1) (List.mem_range.2 (Zq hb));rw[WY hb (by omega) (by simpa using ha),Bool.and_eq_true] at h1;exact h1.2
 have key:∀(d i:Nat) (a b:Heap),l[i]?=some a→l[i+d+1]?=some b→hLt a b=true:=by
  intro d
  induction d with
  | zero=>intro i a b ha hb;exact step i a b ha hb
  | succ d ih =>
   intro i a b ha hb;have hl:=Zq hb;have hm:l[i+d+1]?=some l[i+d+1]:=List.getElem?_eq_getElem (by omega);exact Q6 (ih i a _ ha hm) (step (i+d+1) _ b hm hb)
 unfold Srt;rw[List.pairwise_iff_getElem];intro i j hi hj hij;have:=key (j-i-1) i l[i] l[j] (List.getElem?_eq_getElem hi) (by rw[show i+(j-i-1)+1=j by omega];exact List.getElem?_eq_getElem hj);exact this
def mPutC (l:List Heap)(x:Heap):Int:=if ZE l then (if x.ok then (if ZE (X2 l x) then 0 else 5) else 2) else 1
def mPutL (l:List Heap)(x:Heap):List Heap:=if mPutC l x=0 then X2 l x else []
theorem Xq {l:List Heap}{x:Heap}{c:Int}(h:mPutC l x=c)(hc:¬c=0):mPutL l x=[]:=by unfold mPutL;rw[h,if_neg hc]
theorem U9 {l:List Heap}{x:Heap}(hf:∀z∈l,z.fits)(hx:x.fits):∀z∈X2 l x,z.fits:=by
 intro z hz;rcases put_mem hz with h|⟨h,_⟩
 ·exact hf z h
 ·show z.fSort.size<=maxLen
  rw[h];exact hx
theorem Zcy {w:World}{u0 u1 u2:Value}{t:TypeId}{g:Nat}(h:w.heap[g]?=some (.cells #[u0,u1,u2] t (0,0))) :
  w.cell? ⟨g,0,none⟩=some u0/\w.cell? ⟨g,0+1,none⟩=some u1/\w.cell? ⟨g,0+2,none⟩=some u2:=by
 obtain⟨a,b,c,_⟩:=V2 h;exact⟨a,b,c⟩
theorem Zg1 (A:Option Addr)(n c:Nat)(l:List Heap)(w:World)(hn:n<=1048576)(hf:∀z∈l,z.fits)(hr:Arr Heap.cells 3 w w.heap.size A n l)(x:Heap)(hx:x.fits) :
  Calls Tryz.prog 69 #[.slice A n c,.agg #[.string x.fSort,.int .i64 x.fYear,.int .i64 x.fBundles]] w λe w'=>∃v,e = .returned (.tuple #[v,.int .i64 (mPutC l x)])/\Res Heap.cells 106 3 w' w.heap.size v (mPutL l x).length (mPutL l x)/\Below w.heap.size w w':=by
 have hl:=Za hr.len;have hK:=Za (heap_alloc_new w (.cells #[.string x.fSort,.int .i64 x.fYear,.int .i64 x.fBundles] 106));have hB:Hid (Below w.heap.size w (w.alloc (.cells #[.string x.fSort,.int .i64 x.fYear,.int .i64 x.fBundles] 106))):=Za ((Below.refl _ _).alloc (Nat.le_refl _) _);cases hok0:ZE l
 ·have hok:=Za hok0
  have hm:Hid (mPutC l x=1):=Za (by simp[mPutC,hok0]);clear hok0;have hm2:Hid (mPutL l x=[]):=Za (Xq hm.out (by omega));go_enter Tryz.func69,Tryz.ntmps69;go_wp2_with (first|(go_at_call 63;refine(Yk A n c l _ hn hf (hr.go hB.out)).mono ?_;rw[hok.out];rintro e w1 ⟨rfl,hb⟩;replace hK:=Za (Ya hK.out hb);replace hB:=Za (Below.up hB.out hb);clear hb;obtain⟨k0,k1,k2,kf⟩:=V2 hK.out)|fail)
  go_ret2;exact⟨_,by rw[hm.out];rfl,by rw[hm2.out];exact Res.empty (Nat.zero_le _),hB.out⟩
 have hok:=Za hok0;have h20:=Wu hok0;have hn20:n<=20:=by rw[←hl.out];exact h20
 have hat:=fun(z:Heap) (hz:z∈l)=>JW hok0 hz
 have hsr:=Zbc hok0;cases hxo0:x.ok
 ·have hxo:=Za hxo0
  have hm:Hid (mPutC l x=2):=Za (by simp[mPutC,hok0,hxo0]);clear hok0 hxo0 h20 hat hsr;have hm2:Hid (mPutL l x=[]):=Za (Xq hm.out (by omega));go_enter Tryz.func69,Tryz.ntmps69;go_wp2_with (first|(go_at_call 63;refine(Yk A n c l _ hn hf (hr.go hB.out)).mono ?_;rw[hok.out];rintro e w1 ⟨rfl,hb⟩;replace hK:=Za (Ya hK.out hb);replace hB:=Za (Below.up hB.out hb);clear hb;obtain⟨k0,k1,k2,kf⟩:=V2 hK.out)|(go_at_call 114;refine(YA x _ hx).mono ?_;rw[hxo.out];rintro e w2 ⟨rfl,hb⟩;clear k0 k1 k2 kf;replace hK:=Za (Ya hK.out hb);replace hB:=Za (Below.up hB.out hb);clear hb;obtain⟨k0,k1,k2,kf⟩:=V2 hK.out)|fail)
  go_ret2;exact⟨_,by rw[hm.out];rfl,by rw[hm2.out];exact Res.empty (Nat.zero_le _),hB.out⟩
 have hxo:=Za hxo0;obtain⟨_,hx3,hx4⟩:=Heap.ok_iff.1 hxo0;have hpf:=U9 hf hx;have hpl:=ZdW l x;cases hok20:ZE (X2 l x)
 ·have hok2:=Za hok20
  have hm:Hid (mPutC l x=5):=Za (by simp[mPutC,hok0,hxo0,hok20]);have hm2:Hid (mPutL l x=[]):=Za (Xq hm.out (by omega));clear hok0 hxo0 hok20;go_enter Tryz.func69,Tryz.ntmps69;go_upto_region 5 with (first|(go_at_call 63;refine(Yk A n c l _ hn hf (hr.go hB.out)).mono ?_;rw[hok.out];rintro e w1 ⟨rfl,hb⟩;replace hK:=Za (Ya hK.out hb);replace hB:=Za (Below.up hB.out hb);clear hb;obtain⟨k0,k1,k2,kf⟩:=V2 hK.out)|(go_at_call 114;refine(YA x _ hx).mono ?_;rw[hxo.out];rintro e w2 ⟨rfl,hb⟩;clear k0 k1 k2 kf;replace hK:=Za (Ya hK.out hb);replace hB:=Za (Below.up hB.out hb);clear hb;obtain⟨k0,k1,k2,kf⟩:=V2 hK.out)|fail)
  obtain⟨q0,q1,q2,qf⟩:=V2 hK.out;go_wp2_with (first|(go_at_call 120;refine(ZdV A n c l x _ (by omega) (hr.go hB.out) (λz hz=>(hat z hz).1) hx3.1 hx3.2 hsr (λz hz=>by have:=(hat z hz).2;omega) (by omega)).mono ?_;rintro e w3 ⟨V,rfl,hoV,hb⟩;have hO:=Za (hoV.less hB.out.size);obtain⟨A2,c2,rfl,_⟩:=hoV.slice;replace hB:=Za (Below.up hB.out hb);clear hb hoV)|(go_at_call 63;refine(Yk A2 _ c2 (X2 l x) _ (by omega) hpf (hO.out.arr Heap.len)).mono ?_;rw[hok2.out];rintro e w4 ⟨rfl,hb⟩;replace hO:=Za (hO.out.below hb);replace hB:=Za (Below.up hB.out hb);clear hb)|fail)
  go_ret2;exact⟨_,by rw[hm.out];rfl,by rw[hm2.out];exact Res.empty (Nat.zero_le _),hB.out⟩
 ·have hok2:=Za hok20
  have hm:Hid (mPutC l x=0):=Za (by simp[mPutC,hok0,hxo0,hok20]);have hm2:Hid (mPutL l x=X2 l x):=Za (by unfold mPutL;rw[hm.out];rfl);clear hok0 hxo0 hok20;go_enter Tryz.func69,Tryz.ntmps69;go_upto_region 5 with (first|(go_at_call 63;refine(Yk A n c l _ hn hf (hr.go hB.out)).mono ?_;rw[hok.out];rintro e w1 ⟨rfl,hb⟩;replace hK:=Za (Ya hK.out hb);replace hB:=Za (Below.up hB.out hb);clear hb;obtain⟨k0,k1,k2,kf⟩:=V2 hK.out)|(go_at_call 114;refine(YA x _ hx).mono ?_;rw[hxo.out];rintro e w2 ⟨rfl,hb⟩;clear k0 k1 k2 kf;replace hK:=Za (Ya hK.out hb);replace hB:=Za (Below.up hB.out hb);clear hb;obtain⟨k0,k1,k2,kf⟩:=V2 hK.out)|fail)
  obtain⟨q0,q1,q2,qf⟩:=V2 hK.out;go_wp2_with (first|(go_at_call 120;refine(ZdV A n c l x _ (by omega) (hr.go hB.out) (λz hz=>(hat z hz).1) hx3.1 hx3.2 hsr (λz hz=>by have:=(hat z hz).2;omega) (by omega)).mono ?_;rintro e w3 ⟨V,rfl,hoV,hb⟩;have hO:=Za (hoV.less hB.out.size);obtain⟨A2,c2,rfl,_⟩:=hoV.slice;replace hB:=Za (Below.up hB.out hb);clear hb hoV)|(go_at_call 63;refine(Yk A2 _ c2 (X2 l x) _ (by omega) hpf (hO.out.arr Heap.len)).mono ?_;rw[hok2.out];rintro e w4 ⟨rfl,hb⟩;replace hO:=Za (hO.out.below hb);replace hB:=Za (Below.up hB.out hb);clear hb)|fail)
  go_ret2;exact⟨_,by rw[hm.out];rfl,by rw[hm2.out];exact hO.out.res,hB.out⟩
theorem Zga (b o n c:Nat)(l:List Heap)(w:World)(hn:n<=1048576)(hnc:n<=c)(hf:∀z∈l,z.fits)(hr:Arr Heap.cells 3 w w.heap.size (some ⟨b,o,none⟩) n l)(x:Heap)(hx:x.fits) :
  Calls Tryz.prog 152 #[.slice (some ⟨b,o,none⟩) n c,.agg #[.string x.fSort,.int .i64 x.fYear,.int .i64 x.fBundles]] w λe w'=>∃v,e = .returned (.tuple #[v,.int .i64 (mPutC l x)])/\Res Heap.cells 106 3 w' w.heap.size v (mPutL l x).length (mPutL l x)/\Below w.heap.size w w':=by
 have hl:=Za hr.len;have hK:=Za (heap_alloc_new w (.cells #[.string x.fSort,.int .i64 x.fYear,.int .i64 x.fBundles] 106));have hB:Hid (Below w.heap.size w (w.alloc (.cells #[.string x.fSort,.int .i64 x.fYear,.int .i64 x.fBundles] 106))):=Za ((Below.refl _ _).alloc (Nat.le_refl _) _);cases hok0:ZE l
 ·have hok:=Za hok0
  have hm:Hid (mPutC l x=1):=Za (by simp[mPutC,hok0]);clear hok0;have hm2:Hid (mPutL l x=[]):=Za (Xq hm.out (by omega));go_enter Tryz.func152,Tryz.ntmps152;go_wp2_with (first|(go_at_call 85;refine(ZT _ n c l _ hn hf (hr.go hB.out)).mono ?_;rw[hok.out];rintro e w1 ⟨rfl,hb⟩;replace hK:=Za (Ya hK.out hb);replace hB:=Za (Below.up hB.out hb);clear hb;obtain⟨k0,k1,k2⟩:=Zcy hK.out)|fail)
  go_ret2;exact⟨_,by rw[hm.out];rfl,by rw[hm2.out];exact Res.empty (Nat.zero_le _),hB.out⟩
 have hok:=Za hok0;have h20:=Wu hok0;have hn20:n<=20:=by rw[←hl.out];exact h20
 have hat:=fun(z:Heap) (hz:z∈l)=>JW hok0 hz
 have hsr:=Zbc hok0;cases hxo0:x.ok
 ·have hxo:=Za hxo0
  have hm:Hid (mPutC l x=2):=Za (by simp[mPutC,hok0,hxo0]);clear hok0 hxo0 h20 hat hsr;have hm2:Hid (mPutL l x=[]):=Za (Xq hm.out (by omega));go_enter Tryz.func152,Tryz.ntmps152;go_wp2_with (first|(go_at_call 85;refine(ZT _ n c l _ hn hf (hr.go hB.out)).mono ?_;rw[hok.out];rintro e w1 ⟨rfl,hb⟩;replace hK:=Za (Ya hK.out hb);replace hB:=Za (Below.up hB.out hb);clear hb;obtain⟨k0,k1,k2⟩:=Zcy hK.out)|(go_at_call 136;refine(YL w.heap.size 0 x _ hx k0 k1 k2).mono ?_;rw[hxo.out];rintro e w2 ⟨rfl,rfl⟩)|fail)
  go_ret2;exact⟨_,by rw[hm.out];rfl,by rw[hm2.out];exact Res.empty (Nat.zero_le _),hB.out⟩
 have hxo:=Za hxo0;obtain⟨_,hx3,hx4⟩:=Heap.ok_iff.1 hxo0;have hpf:=U9 hf hx;have hpl:=ZdW l x;cases hok20:ZE (X2 l x)
 ·have hok2:=Za hok20
  have hm:Hid (mPutC l x=5):=Za (by simp[mPutC,hok0,hxo0,hok20]);have hm2:Hid (mPutL l x=[]):=Za (Xq hm.out (by omega));clear hok0 hxo0 hok20;go_enter Tryz.func152,Tryz.ntmps152;go_upto_region 5 with (first|(go_at_call 85;refine(ZT _ n c l _ hn hf (hr.go hB.out)).mono ?_;rw[hok.out];rintro e w1 ⟨rfl,hb⟩;replace hK:=Za (Ya hK.out hb);replace hB:=Za (Below.up hB.out hb);clear hb;obtain⟨k0,k1,k2⟩:=Zcy hK.out)|(go_at_call 136;refine(YL w.heap.size 0 x _ hx k0 k1 k2).mono ?_;rw[hxo.out];rintro e w2 ⟨rfl,rfl⟩)|fail)
  obtain⟨q0,q1,q2,qf⟩:=V2 hK.out;go_wp2_with (first|(go_at_call 214;refine(Zdz b o n c l x _ (by omega) hnc (hr.go hB.out) (λz hz=>by have:=(hat z hz).2;omega) (by omega)).mono ?_;rintro e w3 ⟨V,rfl,hoV,hb,_⟩;have hO:=Za (hoV.less hB.out.size);obtain⟨A2,c2,rfl,_⟩:=hoV.slice;replace hB:=Za (Below.up hB.out hb);clear hb hoV)|(go_at_call 85;refine(ZT A2 _ c2 (X2 l x) _ (by omega) hpf (hO.out.arr Heap.len)).mono ?_;rw[hok2.out];rintro e w4 ⟨rfl,hb⟩;replace hO:=Za (hO.out.below hb);replace hB:=Za (Below.up hB.out hb);clear hb)|fail)
  go_ret2;exact⟨_,by rw[hm.out];rfl,by rw[hm2.out];exact Res.empty (Nat.zero_le _),hB.out⟩
 ·have hok2:=Za hok20
  have hm:Hid (mPutC l x=0):=Za (by simp[mPutC,hok0,hxo0,hok20]);have hm2:Hid (mPutL l x=X2 l x):=Za (by unfold mPutL;rw[hm.out];rfl);clear hok0 hxo0 hok20;go_enter Tryz.func152,Tryz.ntmps152;go_upto_region 5 with (first|(go_at_call 85;refine(ZT _ n c l _ hn hf (hr.go hB.out)).mono ?_;rw[hok.out];rintro e w1 ⟨rfl,hb⟩;replace hK:=Za (Ya hK.out hb);replace hB:=Za (Below.up hB.out hb);clear hb;obtain⟨k0,k1,k2⟩:=Zcy hK.out)|(go_at_call 136;refine(YL w.heap.size 0 x _ hx k0 k1 k2).mono ?_;rw[hxo.out];rintro e w2 ⟨rfl,rfl⟩)|fail)
  obtain⟨q0,q1,q2,qf⟩:=V2 hK.out;go_wp2_with (first|(go_at_call 214;refine(Zdz b o n c l x _ (by omega) hnc (hr.go hB.out) (λz hz=>by have:=(hat z hz).2;omega) (by omega)).mono ?_;rintro e w3 ⟨V,rfl,hoV,hb,_⟩;have hO:=Za (hoV.less hB.out.size);obtain⟨A2,c2,rfl,_⟩:=hoV.slice;replace hB:=Za (Below.up hB.out hb);clear hb hoV)|(go_at_call 85;refine(ZT A2 _ c2 (X2 l x) _ (by omega) hpf (hO.out.arr Heap.len)).mono ?_;rw[hok2.out];rintro e w4 ⟨rfl,hb⟩;replace hO:=Za (hO.out.below hb);replace hB:=Za (Below.up hB.out hb);clear hb)|fail)
  go_ret2;exact⟨_,by rw[hm.out];rfl,by rw[hm2.out];exact hO.out.res,hB.out⟩
end Go.Proofs.YtfpaejlipaainaaGreatDoor
