/- Texts that belong together, joined: contracts and plain laws. No statement is proved here. -/
import Derived.Test.YtfpaejlipaainaaGreatDoorM09
set_option maxRecDepth 100000
set_option maxHeartbeats 1000000
namespace Go.Proofs.YtfpaejlipaainaaGreatDoor
open Go.ChangeShapes Go.WideShapes Go.ChangeAt Go.RowKit Go.Deep
theorem ZcV {c:UInt8}(h:¬c=10)(r:List UInt8):Yz (c :: r)=(Yz r).map (c :: ·):=by
 unfold Yz;have h1:(10∈c :: r)↔(10∈r):=by simp[Ne.symm h]
 by_cases hm:10∈r
 ·rw[if_pos (h1.2 hm),if_pos hm,List.takeWhile_cons,if_pos (by simpa using h)];rfl
 ·rw[if_neg (λe=>hm (h1.1 e)),if_neg hm];rfl
theorem ZkY (s:ByteArray):∀(n a:Nat),s.size-a=n→a<=s.size→∃p,a<=p/\p<=s.size/\(∀j (h:j<s.size),a<=j→j<p→s[j]≠10) /\
  ((p=s.size/\Yz (s.data.toList.drop a)=none)\/(∃h:p<s.size,s[p]=10/\Yz (s.data.toList.drop a)=some ((s.data.toList.take p).drop a)))
 | 0,a,hn,ha=>by
  obtain rfl:a=s.size:=by omega
  refine⟨s.size,Nat.le_refl _,Nat.le_refl _,λj h h1 h2=>by omega,.inl ⟨rfl,?_⟩⟩;have hz:s.data.toList.drop s.size=[]:=List.drop_eq_nil_of_le (by rw[ZM];exact Nat.le_refl _);rw[hz];rfl
 | n+1,a,hn,ha=>by
  have hlt:a<s.size:=by omega
  by_cases hc:s[a]=10
  ·refine⟨a,Nat.le_refl _,ha,λj h h1 h2=>by omega,.inr ⟨hlt,hc,?_⟩⟩
   rw[ZaP hlt,hc];have:(s.data.toList.take a).drop a=[]:=List.drop_eq_nil_of_le (by rw[List.length_take];omega);rw[this];rfl
  ·obtain⟨p,h1,h2,h3,h4⟩:=ZkY s n (a+1) (by omega) (by omega)
   refine⟨p,by omega,h2,λj h h5 h6=>?_,?_⟩
   ·rcases Nat.eq_or_lt_of_le h5 with e|e
    ·subst e;exact hc
    ·exact h3 j h e h6
   ·rw[ZaP hlt,ZcV hc]
    rcases h4 with ⟨e,h4⟩|⟨hp,e,h4⟩
    ·exact .inl ⟨e,by rw[h4];rfl⟩
    ·refine .inr ⟨hp,e,?_⟩
     rw[h4,Option.map_some]
     congr 1
     have hz:(s.data.toList.take p).drop a=s[a] :: (s.data.toList.take p).drop (a+1):=by
      rw[List.drop_eq_getElem_cons (by rw[List.length_take,ZM];omega)]
      congr 1
      rw[List.getElem_take];rfl
     rw[hz]
theorem Zd1 {x:ByteArray}(h:(words 32 x).length≠4):Vt x.data.toList=none:=by
 unfold Vt;split
 ·rename_i a b c d e
  exfalso;apply h
  unfold words;rw[e];rfl
 ·rfl
theorem Jh {x a b c d:ByteArray}(h:words 32 x=[a,b,c,d]) :
  Vt x.data.toList=if Yt a.data.toList=true/\Yt c.data.toList=true/\(⟨rdNum a.data.toList,b,rdNum c.data.toList⟩:Entry).ok=true then some ⟨rdNum a.data.toList,b,rdNum c.data.toList⟩ else none:=by
 unfold words at h
 match hs:spl 32 [] x.data.toList,h with
 | [a',b',c',d'],h =>
  simp only[List.map_cons,List.map_nil,List.cons.injEq,and_true] at h;obtain⟨rfl,rfl,rfl,rfl⟩:=h;unfold Vt;rw[hs];rfl
theorem ZG {w w':World}{g:Nat}{o:Obj}(h:w.heap[g]?=some o)(hb:Below w.heap.size w w'):w'.heap[g]?=some o:=(hb.block g (Array.getElem?_eq_some_iff.1 h).1).trans h
theorem Yg {w:World}{g:Nat}{o:Obj}(h:w.heap[g]?=some o):g<w.heap.size:=(Array.getElem?_eq_some_iff.1 h).1
theorem Yx {P:Program}{f:FuncId}{args:Array Value}{w:World}{n:Nat}{v:Value}
  (h:Calls P f args (w.drewN n) λe w'=>e = .returned v/\∃m,w'=(w.drewN n).drewN m):Calls P f args (w.drewN n) λe w''=>e = .returned v/\∃m,w''=w.drewN m :=
 h.mono λ_ _ ⟨he,m,hm⟩=>⟨he,n+m,by rw[hm];simp[World.drewN,Nat.add_assoc]⟩
theorem quiet_leftb {P:Program}{f:FuncId}{args:Array Value}{w:World}{n:Nat}{b b':Bool}
  (h:Calls P f args (w.drewN n) λe w'=>e = .returned (.bool b)/\w.drewN n=w') (hb:b=b'):Calls P f args (w.drewN n) λe w''=>e = .returned (.bool b')/\∃m,w''=w.drewN m:=by
 subst hb;exact Zy h
theorem Zby {w:World}{g:Nat}{t:TypeId}{cs:Array Value}{base n:Nat}{v:Value}{l:List Entry}{e:TypeId}(h:Own Entry.cells e 3 w base v n l)(hb:w.heap[g]?=some (.cells cs t (0,0)))(hne:e≠t):v.ownBlock≠some g:=by
 rcases h.2.2 with ⟨rfl,_⟩|⟨g',cap,cur,rfl,_,hh,_⟩
 ·simp[Value.ownBlock]
 ·intro he
  have:g'=g:=by simpa[Value.ownBlock] using he
  subst this;rw[hh] at hb;injection hb with hb
  injection hb with _ ht
  exact hne ht
theorem Zdf {w:World}{g:Nat}{t:TypeId}{cs:Array Value}(h:w.heap[g]?=some (.cells cs t (0,0)))(i:Nat)(u:Value):(w.setCell ⟨g,i,none⟩ u).heap[g]?=some (.cells (cs.setIfInBounds i u) t (0,0)):=by
 simp[World.setCell,Array.getElem?_modify,h]
theorem Own.setFar {α:Type}{cells:α→List Value}{e s:Nat}{w:World}{base:Nat}{v:Value}{n:Nat}{l:List α}(h:Own cells e s w base v n l){p:Addr}(hne:v.ownBlock≠some p.block)(u:Value):Own cells e s (w.setCell p u) base v n l :=
 h.kept (row:=some p.block) (Z4 (World.grownBy.refl w _) rfl u) (.inr hne)
theorem Zes (g at_:Nat)(s:ByteArray)(st:Int)(v:Value)(w:World)(hs:s.size<=1000000)
  (hb:w.heap[g]?=some (.cells #[.string s,.int .i64 at_,.int .i64 st,v] 166 (0,0))) (p:Nat) (hp1:at_<=p) (hp2:p=s.size) (hp3:Hid (∀j (h:j<s.size),at_<=j→j<p→s[j]≠10)) :
  Calls Tryz.prog 195 #[.pointer (some ⟨g,0,none⟩)] w λe w'=>e = .returned (.bool false)/\Below w.heap.size w w':=by
 have q0:Hid (w.cell? ⟨g,0,none⟩=some (.string s)):=Za (by rw[cell_of_row _ _ _ _ _ _ hb];rfl);have q1:Hid (w.cell? ⟨g,1,none⟩=some (.int .i64 at_)):=Za (by rw[cell_of_row _ _ _ _ _ _ hb];rfl);have q2:Hid (w.cell? ⟨g,2,none⟩=some (.int .i64 st)):=Za (by rw[cell_of_row _ _ _ _ _ _ hb];rfl);have hgl:=Yg hb;have hbh:=Za hb;clear hb;have c0:=q0.out;have c1:=q1.out;go_enter Tryz.func195,Tryz.ntmps195;go_wp2
 go_loopw [3] (λi wr=>∃k:Nat,at_<=k/\k<=p/\i = .int .i64 k/\w=wr) (λi _=>s.size-(intOf i).toNat)
 case atStart=>exact⟨at_,Nat.le_refl _,hp1,rfl,rfl⟩
 case round =>
  obtain⟨k,hk1,hk2,rfl,rfl⟩:=hrel;by_cases hlt:k<p
  ·have hks:k<s.size:=by omega
   have e1:((s[k].toNat:Int) != 10)=true:=by
    rw[bne_iff_ne];intro h;exact hp3.out k hks hk1 hlt (UInt8.toNat_inj.1 (by show _=10;omega))
   go_wp2
   go_round
   case rel=>exact⟨k+1,by omega,by omega,by go_num,trivial⟩
   case measure=>simp[intOf];omega
  ·obtain rfl:k=p:=by omega
   subst hp2;go_wp2
   go_ret;exact⟨rfl,Below.refl _ _⟩
theorem Zer (g at_ B:Nat)(s:ByteArray)(st:Int)(v:Value)(done:List Entry)(w:World)(hs:s.size<=1000000)(hm:done.length<=1000000)(h0:0<=st)(h1:st<=65518)
  (hb:w.heap[g]?=some (.cells #[.string s,.int .i64 at_,.int .i64 st,v] 166 (0,0))) (ho:Own Entry.cells 116 3 w B v done.length done) (p:Nat) (hp1:at_<=p) (hp2:p<s.size) (hp10:s[p]=10) (hp3:Hid (∀j (h:j<s.size),at_<=j→j<p→s[j]≠10)) (L:List ByteArray) (hL:L=words 32 (s.extract at_ p)) (h4:L.length≠4) :
  Calls Tryz.prog 195 #[.pointer (some ⟨g,0,none⟩)] w λe w'=>e = .returned (.bool false)/\Below w.heap.size w w':=by
 have e4:((L.length:Int) != 4)=true:=by rw[bne_iff_ne];omega
 clear h4;have q0:Hid (w.cell? ⟨g,0,none⟩=some (.string s)):=Za (by rw[cell_of_row _ _ _ _ _ _ hb];rfl);have q1:Hid (w.cell? ⟨g,1,none⟩=some (.int .i64 at_)):=Za (by rw[cell_of_row _ _ _ _ _ _ hb];rfl);have q2:Hid (w.cell? ⟨g,2,none⟩=some (.int .i64 st)):=Za (by rw[cell_of_row _ _ _ _ _ _ hb];rfl);have hgl:=Yg hb;have hbh:=Za hb;have hoh:=Za ho;clear hb ho;have c0:=q0.out;have c1:=q1.out;have hu:=And.intro hm (And.intro h0 h1);clear hu;go_enter Tryz.func195,Tryz.ntmps195;go_wp2
 go_loopw [3] (λi wr=>∃k:Nat,at_<=k/\k<=p/\i = .int .i64 k/\w=wr) (λi _=>s.size-(intOf i).toNat)
 case atStart=>exact⟨at_,Nat.le_refl _,hp1,rfl,rfl⟩
 case round =>
  obtain⟨k,hk1,hk2,rfl,rfl⟩:=hrel;by_cases hlt:k<p
  ·have hks:k<s.size:=by omega
   have e1:((s[k].toNat:Int) != 10)=true:=by
    rw[bne_iff_ne];intro h;exact hp3.out k hks hk1 hlt (UInt8.toNat_inj.1 (by show _=10;omega))
   go_wp2
   go_round
   case rel=>exact⟨k+1,by omega,by omega,by go_num,trivial⟩
   case measure=>simp[intOf];omega
  ·obtain rfl:k=p:=by omega
   have hsp:∀W:World,Hid (Calls Tryz.prog 54 #[.string (s.extract at_ k),.int .u8 32] W λe w'=>∃v,e = .returned v/\Own ZY 9 1 w' W.heap.size v L.length L/\Below W.heap.size W w'):=λW=>Za (by rw[hL];exact ZS 32 (s.extract at_ k) W (by rw[ByteArray.size_extract];omega))
   have hLh:=Za hL;have hSP:=Za hsp;clear hL hsp;have e10:((s[k].toNat:Int) != 10)=false:=by rw[hp10];rfl
   have b1:(0:Int)<=(at_:Int):=by omega
   have b2:(at_:Int)<=(k:Int):=by omega
   have b3:(k:Int)<=(s.size:Int):=by omega
   go_wp2_with fail
   have hC:=Za (Zb (Below.refl w.heap.size w) 1);go_region_held3 (λw'=>w'.cell? ⟨g,0,none⟩=some (.string s)/\w'.cell? ⟨g,1,none⟩=some (.int .i64 at_)) (first|go_keep|exact⟨Zg hC.out hgl q0.out,Zg hC.out hgl q1.out⟩)
    (first|(go_at_call 54;refine(hSP.out _).out.mono ?_;rintro e w2 ⟨v2,rfl,ho2,hb⟩;have hO2:=Za ho2;replace hC:=Za (Below.up hC.out hb);clear hb ho2)|fail)
   obtain⟨Aw,cw,rfl,_⟩:=hO2.out.slice;go_wp2
   go_ret;exact⟨rfl,hC.out⟩
theorem Zge (g at_ B:Nat)(s:ByteArray)(st:Int)(v:Value)(done:List Entry)(w:World)(hs:s.size<=1000000)(hm:done.length<=1000000)(h0:0<=st)(h1:st<=65518)
  (hb:w.heap[g]?=some (.cells #[.string s,.int .i64 at_,.int .i64 st,v] 166 (0,0))) (ho:Own Entry.cells 116 3 w B v done.length done) (p:Nat) (hp1:at_<=p) (a b c d:ByteArray) (ha:a.size<=maxLen) (hc:c.size<=maxLen) (hbz:b.size<=maxLen) (hp2:p<s.size) (hp10:s[p]=10) (hp3:Hid (∀j (h:j<s.size),at_<=j→j<p→s[j]≠10)) (hL:[a,b,c,d]=words 32 (s.extract at_ p)) (k1:Yt a.data.toList=false) :
  Calls Tryz.prog 195 #[.pointer (some ⟨g,0,none⟩)] w λe w'=>e = .returned (.bool false)/\Below w.heap.size w w':=by
 have q0:Hid (w.cell? ⟨g,0,none⟩=some (.string s)):=Za (by rw[cell_of_row _ _ _ _ _ _ hb];rfl);have q1:Hid (w.cell? ⟨g,1,none⟩=some (.int .i64 at_)):=Za (by rw[cell_of_row _ _ _ _ _ _ hb];rfl);have q2:Hid (w.cell? ⟨g,2,none⟩=some (.int .i64 st)):=Za (by rw[cell_of_row _ _ _ _ _ _ hb];rfl);have hgl:=Yg hb;have hbh:=Za hb;have hoh:=Za ho;clear hb ho;have c0:=q0.out;have c1:=q1.out;have hu:=And.intro hm (And.intro h0 h1);clear hu;go_enter Tryz.func195,Tryz.ntmps195;go_wp2
 go_loopw [3] (λi wr=>∃k:Nat,at_<=k/\k<=p/\i = .int .i64 k/\w=wr) (λi _=>s.size-(intOf i).toNat)
 case atStart=>exact⟨at_,Nat.le_refl _,hp1,rfl,rfl⟩
 case round =>
  obtain⟨k,hk1,hk2,rfl,rfl⟩:=hrel;by_cases hlt:k<p
  ·have hks:k<s.size:=by omega
   have e1:((s[k].toNat:Int) != 10)=true:=by
    rw[bne_iff_ne];intro h;exact hp3.out k hks hk1 hlt (UInt8.toNat_inj.1 (by show _=10;omega))
   go_wp2
   go_round
   case rel=>exact⟨k+1,by omega,by omega,by go_num,trivial⟩
   case measure=>simp[intOf];omega
  ·obtain rfl:k=p:=by omega
   have hsp:∀W:World,Hid (Calls Tryz.prog 54 #[.string (s.extract at_ k),.int .u8 32] W λe w'=>∃v,e = .returned v/\Own ZY 9 1 w' W.heap.size v [a,b,c,d].length [a,b,c,d]/\Below W.heap.size W w'):=λW=>Za (by rw[hL];exact ZS 32 (s.extract at_ k) W (by rw[ByteArray.size_extract];omega))
   have hLh:=Za hL;have hSP:=Za hsp;clear hL hsp;have e10:((s[k].toNat:Int) != 10)=false:=by rw[hp10];rfl
   have b1:(0:Int)<=(at_:Int):=by omega
   have b2:(at_:Int)<=(k:Int):=by omega
   have b3:(k:Int)<=(s.size:Int):=by omega
   go_wp2_with fail
   have hC:=Za (Zb (Below.refl w.heap.size w) 1);go_region_held3 (λw'=>w'.cell? ⟨g,0,none⟩=some (.string s)/\w'.cell? ⟨g,1,none⟩=some (.int .i64 at_)) (first|go_keep|exact⟨Zg hC.out hgl q0.out,Zg hC.out hgl q1.out⟩)
    (first|(go_at_call 54;refine(hSP.out _).out.mono ?_;rintro e w2 ⟨v2,rfl,ho2,hb⟩;have hO2:=Za ho2;replace hC:=Za (Below.up hC.out hb);clear hb ho2)|fail)
   have hu:=hbz;clear hu;obtain⟨Aw,cw,rfl,_⟩:=hO2.out.slice;have hR:=hO2.out.arr Zf;obtain⟨bw,ow,x0,rfl,hbl,hx0,z0⟩:=hR.str (k:=0) (by show 0<4;omega);obtain⟨_,_,x1,hA1,_,hx1,z1⟩:=hR.str (k:=1) (by show 1<4;omega);cases hA1
   obtain⟨_,_,x2,hA2,_,hx2,z2⟩:=hR.str (k:=2) (by show 2<4;omega);cases hA2
   obtain rfl:a=x0:=by simpa using hx0
   obtain rfl:b=x1:=by simpa using hx1
   obtain rfl:c=x2:=by simpa using hx2
   clear hx0 hx1 hx2 hR hO2;rw[Nat.add_zero] at z0;have y1:=Za z1;have y2:=Za z2;have hD:=Za (Below.refl w2.heap.size w2);clear z1 z2;go_wp2_with fail
   refine(ZN a _ ha).mono ?_;rintro e w3 ⟨rfl,hb⟩;replace hC:=Za (Below.up hC.out hb);replace hD:=Za (Below.up hD.out hb);clear hb z0;have z2:=Zg hD.out hbl y2.out;go_wp2_with fail
   refine(ZN c _ hc).mono ?_;rintro e w4 ⟨rfl,hb⟩;replace hC:=Za (Below.up hC.out hb);replace hD:=Za (Below.up hD.out hb);clear hb z2;have z1:=Zg hD.out hbl y1.out;have j0:(w4.alloc (.cells #[.int .i64 (rdNum a.data.toList),.string b,.int .i64 (rdNum c.data.toList)] 116)).cell? ⟨w4.heap.size,0,none⟩=some (.int .i64 (rdNum a.data.toList)):=by rw[cell_of_row _ _ _ _ _ _ (heap_alloc_new w4 _)];rfl
   have j1:(w4.alloc (.cells #[.int .i64 (rdNum a.data.toList),.string b,.int .i64 (rdNum c.data.toList)] 116)).cell? ⟨w4.heap.size,1,none⟩=some (.string b):=by rw[cell_of_row _ _ _ _ _ _ (heap_alloc_new w4 _)];rfl
   have j2:(w4.alloc (.cells #[.int .i64 (rdNum a.data.toList),.string b,.int .i64 (rdNum c.data.toList)] 116)).cell? ⟨w4.heap.size,2,none⟩=some (.int .i64 (rdNum c.data.toList)):=by rw[cell_of_row _ _ _ _ _ _ (heap_alloc_new w4 _)];rfl
   have hnb:=Za (heap_alloc_new w4 (.cells #[.int .i64 (rdNum a.data.toList),.string b,.int .i64 (rdNum c.data.toList)] 116));have hC4:=Za (hC.out.alloc hC.out.size (.cells #[.int .i64 (rdNum a.data.toList),.string b,.int .i64 (rdNum c.data.toList)] 116));have hj:w4.heap.size<(w4.alloc (.cells #[.int .i64 (rdNum a.data.toList),.string b,.int .i64 (rdNum c.data.toList)] 116)).heap.size:=by simp
   go_wp2_with fail
   clear z1;obtain⟨h,hh⟩:∃h,h=w4.heap.size:=⟨_,rfl⟩;obtain⟨W5,hW5⟩:∃W5,W5=w4.alloc (.cells #[.int .i64 (rdNum a.data.toList),.string b,.int .i64 (rdNum c.data.toList)] 116):=⟨_,rfl⟩;rw[←hW5] at j0 j1 j2 hC4 hj hnb ⊢;rw[←hh] at j0 j1 j2 hj hnb ⊢;have hge:w.heap.size<=h:=by rw[hh];exact hC.out.size
   have hge2:=Za hge;clear hW5 hh hC hge;have hb5:=Za (ZG hbh.out hC4.out);have ho5:=Za (hoh.out.below hC4.out);have i0:=Za j0;have i1:=Za j1;have i2:=Za j2;go_quiet (fail)
   go_wp2
   go_ret;exact⟨rfl,Zb hC4.out _⟩
theorem Zgd (g at_ B:Nat)(s:ByteArray)(st:Int)(v:Value)(done:List Entry)(w:World)(hs:s.size<=1000000)(hm:done.length<=1000000)(h0:0<=st)(h1:st<=65518)
  (hb:w.heap[g]?=some (.cells #[.string s,.int .i64 at_,.int .i64 st,v] 166 (0,0))) (ho:Own Entry.cells 116 3 w B v done.length done) (p:Nat) (hp1:at_<=p) (a b c d:ByteArray) (ha:a.size<=maxLen) (hc:c.size<=maxLen) (hbz:b.size<=maxLen) (hp2:p<s.size) (hp10:s[p]=10) (hp3:Hid (∀j (h:j<s.size),at_<=j→j<p→s[j]≠10)) (hL:[a,b,c,d]=words 32 (s.extract at_ p)) (k1:Yt a.data.toList=true) (k2:Yt c.data.toList=false) :
  Calls Tryz.prog 195 #[.pointer (some ⟨g,0,none⟩)] w λe w'=>e = .returned (.bool false)/\Below w.heap.size w w':=by
 have q0:Hid (w.cell? ⟨g,0,none⟩=some (.string s)):=Za (by rw[cell_of_row _ _ _ _ _ _ hb];rfl);have q1:Hid (w.cell? ⟨g,1,none⟩=some (.int .i64 at_)):=Za (by rw[cell_of_row _ _ _ _ _ _ hb];rfl);have q2:Hid (w.cell? ⟨g,2,none⟩=some (.int .i64 st)):=Za (by rw[cell_of_row _ _ _ _ _ _ hb];rfl);have hgl:=Yg hb;have hbh:=Za hb;have hoh:=Za ho;clear hb ho;have c0:=q0.out;have c1:=q1.out;have hu:=And.intro hm (And.intro h0 h1);clear hu;go_enter Tryz.func195,Tryz.ntmps195;go_wp2
 go_loopw [3] (λi wr=>∃k:Nat,at_<=k/\k<=p/\i = .int .i64 k/\w=wr) (λi _=>s.size-(intOf i).toNat)
 case atStart=>exact⟨at_,Nat.le_refl _,hp1,rfl,rfl⟩
 case round =>
  obtain⟨k,hk1,hk2,rfl,rfl⟩:=hrel;by_cases hlt:k<p
  ·have hks:k<s.size:=by omega
   have e1:((s[k].toNat:Int) != 10)=true:=by
    rw[bne_iff_ne];intro h;exact hp3.out k hks hk1 hlt (UInt8.toNat_inj.1 (by show _=10;omega))
   go_wp2
   go_round
   case rel=>exact⟨k+1,by omega,by omega,by go_num,trivial⟩
   case measure=>simp[intOf];omega
  ·obtain rfl:k=p:=by omega
   have hsp:∀W:World,Hid (Calls Tryz.prog 54 #[.string (s.extract at_ k),.int .u8 32] W λe w'=>∃v,e = .returned v/\Own ZY 9 1 w' W.heap.size v [a,b,c,d].length [a,b,c,d]/\Below W.heap.size W w'):=λW=>Za (by rw[hL];exact ZS 32 (s.extract at_ k) W (by rw[ByteArray.size_extract];omega))
   have hLh:=Za hL;have hSP:=Za hsp;clear hL hsp;have e10:((s[k].toNat:Int) != 10)=false:=by rw[hp10];rfl
   have b1:(0:Int)<=(at_:Int):=by omega
   have b2:(at_:Int)<=(k:Int):=by omega
   have b3:(k:Int)<=(s.size:Int):=by omega
   go_wp2_with fail
   have hC:=Za (Zb (Below.refl w.heap.size w) 1);go_region_held3 (λw'=>w'.cell? ⟨g,0,none⟩=some (.string s)/\w'.cell? ⟨g,1,none⟩=some (.int .i64 at_)) (first|go_keep|exact⟨Zg hC.out hgl q0.out,Zg hC.out hgl q1.out⟩)
    (first|(go_at_call 54;refine(hSP.out _).out.mono ?_;rintro e w2 ⟨v2,rfl,ho2,hb⟩;have hO2:=Za ho2;replace hC:=Za (Below.up hC.out hb);clear hb ho2)|fail)
   have hu:=hbz;clear hu;obtain⟨Aw,cw,rfl,_⟩:=hO2.out.slice;have hR:=hO2.out.arr Zf;obtain⟨bw,ow,x0,rfl,hbl,hx0,z0⟩:=hR.str (k:=0) (by show 0<4;omega);obtain⟨_,_,x1,hA1,_,hx1,z1⟩:=hR.str (k:=1) (by show 1<4;omega);cases hA1
   obtain⟨_,_,x2,hA2,_,hx2,z2⟩:=hR.str (k:=2) (by show 2<4;omega);cases hA2
   obtain rfl:a=x0:=by simpa using hx0
   obtain rfl:b=x1:=by simpa using hx1
   obtain rfl:c=x2:=by simpa using hx2
   clear hx0 hx1 hx2 hR hO2;rw[Nat.add_zero] at z0;have y1:=Za z1;have y2:=Za z2;have hD:=Za (Below.refl w2.heap.size w2);clear z1 z2;go_wp2_with fail
   refine(ZN a _ ha).mono ?_;rintro e w3 ⟨rfl,hb⟩;replace hC:=Za (Below.up hC.out hb);replace hD:=Za (Below.up hD.out hb);clear hb z0;have z2:=Zg hD.out hbl y2.out;go_wp2_with fail
   refine(ZN c _ hc).mono ?_;rintro e w4 ⟨rfl,hb⟩;replace hC:=Za (Below.up hC.out hb);replace hD:=Za (Below.up hD.out hb);clear hb z2;have z1:=Zg hD.out hbl y1.out;have j0:(w4.alloc (.cells #[.int .i64 (rdNum a.data.toList),.string b,.int .i64 (rdNum c.data.toList)] 116)).cell? ⟨w4.heap.size,0,none⟩=some (.int .i64 (rdNum a.data.toList)):=by rw[cell_of_row _ _ _ _ _ _ (heap_alloc_new w4 _)];rfl
   have j1:(w4.alloc (.cells #[.int .i64 (rdNum a.data.toList),.string b,.int .i64 (rdNum c.data.toList)] 116)).cell? ⟨w4.heap.size,1,none⟩=some (.string b):=by rw[cell_of_row _ _ _ _ _ _ (heap_alloc_new w4 _)];rfl
   have j2:(w4.alloc (.cells #[.int .i64 (rdNum a.data.toList),.string b,.int .i64 (rdNum c.data.toList)] 116)).cell? ⟨w4.heap.size,2,none⟩=some (.int .i64 (rdNum c.data.toList)):=by rw[cell_of_row _ _ _ _ _ _ (heap_alloc_new w4 _)];rfl
   have hnb:=Za (heap_alloc_new w4 (.cells #[.int .i64 (rdNum a.data.toList),.string b,.int .i64 (rdNum c.data.toList)] 116));have hC4:=Za (hC.out.alloc hC.out.size (.cells #[.int .i64 (rdNum a.data.toList),.string b,.int .i64 (rdNum c.data.toList)] 116));have hj:w4.heap.size<(w4.alloc (.cells #[.int .i64 (rdNum a.data.toList),.string b,.int .i64 (rdNum c.data.toList)] 116)).heap.size:=by simp
   go_wp2_with fail
   clear z1;obtain⟨h,hh⟩:∃h,h=w4.heap.size:=⟨_,rfl⟩;obtain⟨W5,hW5⟩:∃W5,W5=w4.alloc (.cells #[.int .i64 (rdNum a.data.toList),.string b,.int .i64 (rdNum c.data.toList)] 116):=⟨_,rfl⟩;rw[←hW5] at j0 j1 j2 hC4 hj hnb ⊢;rw[←hh] at j0 j1 j2 hj hnb ⊢;have hge:w.heap.size<=h:=by rw[hh];exact hC.out.size
   have hge2:=Za hge;clear hW5 hh hC hge;have hb5:=Za (ZG hbh.out hC4.out);have ho5:=Za (hoh.out.below hC4.out);have i0:=Za j0;have i1:=Za j1;have i2:=Za j2;go_quiet (fail)
   go_wp2
   go_ret;exact⟨rfl,Zb hC4.out _⟩
theorem Zcs (g at_ B:Nat)(s:ByteArray)(st:Int)(v:Value)(done:List Entry)(w:World)(hs:s.size<=1000000)(hm:done.length<=1000000)(h0:0<=st)(h1:st<=65518)
  (hb:w.heap[g]?=some (.cells #[.string s,.int .i64 at_,.int .i64 st,v] 166 (0,0))) (ho:Own Entry.cells 116 3 w B v done.length done) (p:Nat) (hp1:at_<=p) (a b c d:ByteArray) (ha:a.size<=maxLen) (hc:c.size<=maxLen) (hbz:b.size<=maxLen) (hp2:p<s.size) (hp10:s[p]=10) (hp3:Hid (∀j (h:j<s.size),at_<=j→j<p→s[j]≠10)) (hL:[a,b,c,d]=words 32 (s.extract at_ p)) (k1:Yt a.data.toList=true) (k2:Yt c.data.toList=true) (hX:Hid ((⟨rdNum a.data.toList,b,rdNum c.data.toList⟩:Entry).ok=false)) :
  Calls Tryz.prog 195 #[.pointer (some ⟨g,0,none⟩)] w λe w'=>e = .returned (.bool false)/\Below w.heap.size w w':=by
 have q0:Hid (w.cell? ⟨g,0,none⟩=some (.string s)):=Za (by rw[cell_of_row _ _ _ _ _ _ hb];rfl);have q1:Hid (w.cell? ⟨g,1,none⟩=some (.int .i64 at_)):=Za (by rw[cell_of_row _ _ _ _ _ _ hb];rfl);have q2:Hid (w.cell? ⟨g,2,none⟩=some (.int .i64 st)):=Za (by rw[cell_of_row _ _ _ _ _ _ hb];rfl);have hgl:=Yg hb;have hbh:=Za hb;have hoh:=Za ho;clear hb ho;have c0:=q0.out;have c1:=q1.out;have hu:=And.intro hm (And.intro h0 h1);clear hu;go_enter Tryz.func195,Tryz.ntmps195;go_wp2
 go_loopw [3] (λi wr=>∃k:Nat,at_<=k/\k<=p/\i = .int .i64 k/\w=wr) (λi _=>s.size-(intOf i).toNat)
 case atStart=>exact⟨at_,Nat.le_refl _,hp1,rfl,rfl⟩
 case round =>
  obtain⟨k,hk1,hk2,rfl,rfl⟩:=hrel;by_cases hlt:k<p
  ·have hks:k<s.size:=by omega
   have e1:((s[k].toNat:Int) != 10)=true:=by
    rw[bne_iff_ne];intro h;exact hp3.out k hks hk1 hlt (UInt8.toNat_inj.1 (by show _=10;omega))
   go_wp2
   go_round
   case rel=>exact⟨k+1,by omega,by omega,by go_num,trivial⟩
   case measure=>simp[intOf];omega
  ·obtain rfl:k=p:=by omega
   have hsp:∀W:World,Hid (Calls Tryz.prog 54 #[.string (s.extract at_ k),.int .u8 32] W λe w'=>∃v,e = .returned v/\Own ZY 9 1 w' W.heap.size v [a,b,c,d].length [a,b,c,d]/\Below W.heap.size W w'):=λW=>Za (by rw[hL];exact ZS 32 (s.extract at_ k) W (by rw[ByteArray.size_extract];omega))
   have hLh:=Za hL;have hSP:=Za hsp;clear hL hsp;have e10:((s[k].toNat:Int) != 10)=false:=by rw[hp10];rfl
   have b1:(0:Int)<=(at_:Int):=by omega
   have b2:(at_:Int)<=(k:Int):=by omega
   have b3:(k:Int)<=(s.size:Int):=by omega
   go_wp2_with fail
   have hC:=Za (Zb (Below.refl w.heap.size w) 1);go_region_held3 (λw'=>w'.cell? ⟨g,0,none⟩=some (.string s)/\w'.cell? ⟨g,1,none⟩=some (.int .i64 at_)) (first|go_keep|exact⟨Zg hC.out hgl q0.out,Zg hC.out hgl q1.out⟩)
    (first|(go_at_call 54;refine(hSP.out _).out.mono ?_;rintro e w2 ⟨v2,rfl,ho2,hb⟩;have hO2:=Za ho2;replace hC:=Za (Below.up hC.out hb);clear hb ho2)|fail)
   have hu:=hbz;clear hu;obtain⟨Aw,cw,rfl,_⟩:=hO2.out.slice;have hR:=hO2.out.arr Zf;obtain⟨bw,ow,x0,rfl,hbl,hx0,z0⟩:=hR.str (k:=0) (by show 0<4;omega);obtain⟨_,_,x1,hA1,_,hx1,z1⟩:=hR.str (k:=1) (by show 1<4;omega);cases hA1
   obtain⟨_,_,x2,hA2,_,hx2,z2⟩:=hR.str (k:=2) (by show 2<4;omega);cases hA2
   obtain rfl:a=x0:=by simpa using hx0
   obtain rfl:b=x1:=by simpa using hx1
   obtain rfl:c=x2:=by simpa using hx2
   clear hx0 hx1 hx2 hR hO2;rw[Nat.add_zero] at z0;have y1:=Za z1;have y2:=Za z2;have hD:=Za (Below.refl w2.heap.size w2);clear z1 z2;go_wp2_with fail
   refine(ZN a _ ha).mono ?_;rintro e w3 ⟨rfl,hb⟩;replace hC:=Za (Below.up hC.out hb);replace hD:=Za (Below.up hD.out hb);clear hb z0;have z2:=Zg hD.out hbl y2.out;go_wp2_with fail
   refine(ZN c _ hc).mono ?_;rintro e w4 ⟨rfl,hb⟩;replace hC:=Za (Below.up hC.out hb);replace hD:=Za (Below.up hD.out hb);clear hb z2;have z1:=Zg hD.out hbl y1.out;have j0:(w4.alloc (.cells #[.int .i64 (rdNum a.data.toList),.string b,.int .i64 (rdNum c.data.toList)] 116)).cell? ⟨w4.heap.size,0,none⟩=some (.int .i64 (rdNum a.data.toList)):=by rw[cell_of_row _ _ _ _ _ _ (heap_alloc_new w4 _)];rfl
   have j1:(w4.alloc (.cells #[.int .i64 (rdNum a.data.toList),.string b,.int .i64 (rdNum c.data.toList)] 116)).cell? ⟨w4.heap.size,1,none⟩=some (.string b):=by rw[cell_of_row _ _ _ _ _ _ (heap_alloc_new w4 _)];rfl
   have j2:(w4.alloc (.cells #[.int .i64 (rdNum a.data.toList),.string b,.int .i64 (rdNum c.data.toList)] 116)).cell? ⟨w4.heap.size,2,none⟩=some (.int .i64 (rdNum c.data.toList)):=by rw[cell_of_row _ _ _ _ _ _ (heap_alloc_new w4 _)];rfl
   have hnb:=Za (heap_alloc_new w4 (.cells #[.int .i64 (rdNum a.data.toList),.string b,.int .i64 (rdNum c.data.toList)] 116));have hC4:=Za (hC.out.alloc hC.out.size (.cells #[.int .i64 (rdNum a.data.toList),.string b,.int .i64 (rdNum c.data.toList)] 116));have hj:w4.heap.size<(w4.alloc (.cells #[.int .i64 (rdNum a.data.toList),.string b,.int .i64 (rdNum c.data.toList)] 116)).heap.size:=by simp
   go_wp2_with fail
   clear z1;obtain⟨h,hh⟩:∃h,h=w4.heap.size:=⟨_,rfl⟩;obtain⟨W5,hW5⟩:∃W5,W5=w4.alloc (.cells #[.int .i64 (rdNum a.data.toList),.string b,.int .i64 (rdNum c.data.toList)] 116):=⟨_,rfl⟩;rw[←hW5] at j0 j1 j2 hC4 hj hnb ⊢;rw[←hh] at j0 j1 j2 hj hnb ⊢;have hge:w.heap.size<=h:=by rw[hh];exact hC.out.size
   have hge2:=Za hge;clear hW5 hh hC hge;have hb5:=Za (ZG hbh.out hC4.out);have ho5:=Za (hoh.out.below hC4.out);have i0:=Za j0;have i1:=Za j1;have i2:=Za j2;go_quiet ((first|(go_at_call 207;exact quiet_leftb (Y3 h 0 (⟨rdNum a.data.toList,b,rdNum c.data.toList⟩:Entry) _ hbz i0.out i1.out i2.out) (by first|exact hX.out|rfl))|fail))
   go_wp2
   go_ret;exact⟨rfl,Zb hC4.out _⟩
theorem Zet (g at_ B:Nat)(s:ByteArray)(st:Int)(v:Value)(done:List Entry)(w:World)(hs:s.size<=1000000)(hm:done.length<=1000000)(h0:0<=st)(h1:st<=65518)
  (hb:w.heap[g]?=some (.cells #[.string s,.int .i64 at_,.int .i64 st,v] 166 (0,0))) (ho:Own Entry.cells 116 3 w B v done.length done) (p:Nat) (hp1:at_<=p) (a b c d:ByteArray) (ha:a.size<=maxLen) (hc:c.size<=maxLen) (hbz:b.size<=maxLen) (hp2:p<s.size) (hp10:s[p]=10) (hp3:Hid (∀j (h:j<s.size),at_<=j→j<p→s[j]≠10)) (hL:[a,b,c,d]=words 32 (s.extract at_ p)) (k1:Yt a.data.toList=true) (k2:Yt c.data.toList=true) (hX:Hid ((⟨rdNum a.data.toList,b,rdNum c.data.toList⟩:Entry).ok=true)) (kd:rdNum a.data.toList<lastDay done) :
  Calls Tryz.prog 195 #[.pointer (some ⟨g,0,none⟩)] w λe w'=>e = .returned (.bool false)/\Below w.heap.size w w':=by
 have kd2:decide (rdNum a.data.toList<lastDay done)=true:=decide_eq_true kd;have q0:Hid (w.cell? ⟨g,0,none⟩=some (.string s)):=Za (by rw[cell_of_row _ _ _ _ _ _ hb];rfl);have q1:Hid (w.cell? ⟨g,1,none⟩=some (.int .i64 at_)):=Za (by rw[cell_of_row _ _ _ _ _ _ hb];rfl);have q2:Hid (w.cell? ⟨g,2,none⟩=some (.int .i64 st)):=Za (by rw[cell_of_row _ _ _ _ _ _ hb];rfl);have hgl:=Yg hb;have hbh:=Za hb;have hoh:=Za ho;clear hb ho;have c0:=q0.out;have c1:=q1.out;have hu:=And.intro hm (And.intro h0 h1);clear hu;go_enter Tryz.func195,Tryz.ntmps195;go_wp2
 go_loopw [3] (λi wr=>∃k:Nat,at_<=k/\k<=p/\i = .int .i64 k/\w=wr) (λi _=>s.size-(intOf i).toNat)
 case atStart=>exact⟨at_,Nat.le_refl _,hp1,rfl,rfl⟩
 case round =>
  obtain⟨k,hk1,hk2,rfl,rfl⟩:=hrel;by_cases hlt:k<p
  ·have hks:k<s.size:=by omega
   have e1:((s[k].toNat:Int) != 10)=true:=by
    rw[bne_iff_ne];intro h;exact hp3.out k hks hk1 hlt (UInt8.toNat_inj.1 (by show _=10;omega))
   go_wp2
   go_round
   case rel=>exact⟨k+1,by omega,by omega,by go_num,trivial⟩
   case measure=>simp[intOf];omega
  ·obtain rfl:k=p:=by omega
   have hsp:∀W:World,Hid (Calls Tryz.prog 54 #[.string (s.extract at_ k),.int .u8 32] W λe w'=>∃v,e = .returned v/\Own ZY 9 1 w' W.heap.size v [a,b,c,d].length [a,b,c,d]/\Below W.heap.size W w'):=λW=>Za (by rw[hL];exact ZS 32 (s.extract at_ k) W (by rw[ByteArray.size_extract];omega))
   have hLh:=Za hL;have hSP:=Za hsp;clear hL hsp;have e10:((s[k].toNat:Int) != 10)=false:=by rw[hp10];rfl
   have b1:(0:Int)<=(at_:Int):=by omega
   have b2:(at_:Int)<=(k:Int):=by omega
   have b3:(k:Int)<=(s.size:Int):=by omega
   go_wp2_with fail
   have hC:=Za (Zb (Below.refl w.heap.size w) 1);go_region_held3 (λw'=>w'.cell? ⟨g,0,none⟩=some (.string s)/\w'.cell? ⟨g,1,none⟩=some (.int .i64 at_)) (first|go_keep|exact⟨Zg hC.out hgl q0.out,Zg hC.out hgl q1.out⟩)
    (first|(go_at_call 54;refine(hSP.out _).out.mono ?_;rintro e w2 ⟨v2,rfl,ho2,hb⟩;have hO2:=Za ho2;replace hC:=Za (Below.up hC.out hb);clear hb ho2)|fail)
   have hu:=hbz;clear hu;obtain⟨Aw,cw,rfl,_⟩:=hO2.out.slice;have hR:=hO2.out.arr Zf;obtain⟨bw,ow,x0,rfl,hbl,hx0,z0⟩:=hR.str (k:=0) (by show 0<4;omega);obtain⟨_,_,x1,hA1,_,hx1,z1⟩:=hR.str (k:=1) (by show 1<4;omega);cases hA1
   obtain⟨_,_,x2,hA2,_,hx2,z2⟩:=hR.str (k:=2) (by show 2<4;omega);cases hA2
   obtain rfl:a=x0:=by simpa using hx0
   obtain rfl:b=x1:=by simpa using hx1
   obtain rfl:c=x2:=by simpa using hx2
   clear hx0 hx1 hx2 hR hO2;rw[Nat.add_zero] at z0;have y1:=Za z1;have y2:=Za z2;have hD:=Za (Below.refl w2.heap.size w2);clear z1 z2;go_wp2_with fail
   refine(ZN a _ ha).mono ?_;rintro e w3 ⟨rfl,hb⟩;replace hC:=Za (Below.up hC.out hb);replace hD:=Za (Below.up hD.out hb);clear hb z0;have z2:=Zg hD.out hbl y2.out;go_wp2_with fail
   refine(ZN c _ hc).mono ?_;rintro e w4 ⟨rfl,hb⟩;replace hC:=Za (Below.up hC.out hb);replace hD:=Za (Below.up hD.out hb);clear hb z2;have z1:=Zg hD.out hbl y1.out;have j0:(w4.alloc (.cells #[.int .i64 (rdNum a.data.toList),.string b,.int .i64 (rdNum c.data.toList)] 116)).cell? ⟨w4.heap.size,0,none⟩=some (.int .i64 (rdNum a.data.toList)):=by rw[cell_of_row _ _ _ _ _ _ (heap_alloc_new w4 _)];rfl
   have j1:(w4.alloc (.cells #[.int .i64 (rdNum a.data.toList),.string b,.int .i64 (rdNum c.data.toList)] 116)).cell? ⟨w4.heap.size,1,none⟩=some (.string b):=by rw[cell_of_row _ _ _ _ _ _ (heap_alloc_new w4 _)];rfl
   have j2:(w4.alloc (.cells #[.int .i64 (rdNum a.data.toList),.string b,.int .i64 (rdNum c.data.toList)] 116)).cell? ⟨w4.heap.size,2,none⟩=some (.int .i64 (rdNum c.data.toList)):=by rw[cell_of_row _ _ _ _ _ _ (heap_alloc_new w4 _)];rfl
   have hnb:=Za (heap_alloc_new w4 (.cells #[.int .i64 (rdNum a.data.toList),.string b,.int .i64 (rdNum c.data.toList)] 116));have hC4:=Za (hC.out.alloc hC.out.size (.cells #[.int .i64 (rdNum a.data.toList),.string b,.int .i64 (rdNum c.data.toList)] 116));have hj:w4.heap.size<(w4.alloc (.cells #[.int .i64 (rdNum a.data.toList),.string b,.int .i64 (rdNum c.data.toList)] 116)).heap.size:=by simp
   go_wp2_with fail
   clear z1;obtain⟨h,hh⟩:∃h,h=w4.heap.size:=⟨_,rfl⟩;obtain⟨W5,hW5⟩:∃W5,W5=w4.alloc (.cells #[.int .i64 (rdNum a.data.toList),.string b,.int .i64 (rdNum c.data.toList)] 116):=⟨_,rfl⟩;rw[←hW5] at j0 j1 j2 hC4 hj hnb ⊢;rw[←hh] at j0 j1 j2 hj hnb ⊢;have hge:w.heap.size<=h:=by rw[hh];exact hC.out.size
   have hge2:=Za hge;clear hW5 hh hC hge;have hb5:=Za (ZG hbh.out hC4.out);have ho5:=Za (hoh.out.below hC4.out);have i0:=Za j0;have i1:=Za j1;have i2:=Za j2;go_quiet ((first|(go_at_call 207;exact quiet_leftb (Y3 h 0 (⟨rdNum a.data.toList,b,rdNum c.data.toList⟩:Entry) _ hbz i0.out i1.out i2.out) (by first|exact hX.out|rfl))|(go_at_call 208;exact Yx (Vd g _ B at_ s st v done (by omega) hb5.out ho5.out))|fail))
   go_wp2
   go_ret;exact⟨rfl,Zb hC4.out _⟩
end Go.Proofs.YtfpaejlipaainaaGreatDoor
