/- Texts that belong together, joined: contracts and plain laws. No statement is proved here. -/
import Derived.Test.YtfpaejlipaainaaGreatDoorM08
import Derived.Deep.RegionWith
set_option maxRecDepth 100000
namespace Go.Proofs.YtfpaejlipaainaaGreatDoor
open Go.ChangeShapes Go.WideShapes Go.ChangeAt Go.RowKit Go.Deep
def Zd7 (a b c:List UInt8):Entry:=⟨rdNum a,⟨b.toArray⟩,rdNum c⟩
def Vt (l:List UInt8):Option Entry:=match spl 32 [] l with
 | [a,b,c,_]=>if Yt a=true/\Yt c=true/\(Zd7 a b c).ok=true then some (Zd7 a b c) else none
 | _=>none
def Yz (l:List UInt8):Option (List UInt8):=if 10∈l then some (l.takeWhile (·≠10)) else none
def Vv (st day:Int)(l:List UInt8)(e:Entry):Bool:=decide (day<=e.fDay)&&decide (YP (stampB st (entB e)) e=⟨(l++[10]).toArray⟩)
def Yo (st day:Int)(rest:List UInt8):Option (Entry × List UInt8):=match Yz rest with
 | none=>none
 | some l=>match Vt l with
  | none=>none
  | some e=>if Vv st day l e=true then some (e,l) else none
def readK:Nat→List UInt8→Int→Int→List Entry × Nat × Int
 | 0,_,st,_=>([],0,st)
 | f+1,rest,st,day=>match Yo st day rest with
  | none=>([],0,st)
  | some (e,l) =>
   let r:=readK f (rest.drop (l.length+1)) (stampB st (entB e)) e.fDay
   (e :: r.1,l.length+1+r.2.1,r.2.2)
def rdLog (s:ByteArray):List Entry × Nat × Int:=readK (s.size+1) s.data.toList 0 0
def Zag (s:ByteArray)(done:List Entry)(at_:Nat)(st day:Int):Prop :=
 at_<=s.size/\∃f,s.size-at_<f/\rdLog s=(done++(readK f (s.data.toList.drop at_) st day).1,at_+(readK f (s.data.toList.drop at_) st day).2.1,(readK f (s.data.toList.drop at_) st day).2.2)
theorem ZbE (s:ByteArray):Zag s [] 0 0 0:=⟨Nat.zero_le _,s.size+1,by omega,by simp[rdLog]⟩
theorem Vg {l x:List UInt8}(h:Yz l=some x):x.length+1<=l.length:=by
 unfold Yz at h;split at h
 ·rename_i hm
  injection h with h
  subst h
  induction l with
  | nil=>cases hm
  | cons c r ih =>
   rw[List.takeWhile_cons];by_cases hc:c=10
   ·subst hc;simp
   ·have:decide (c≠10)=true:=decide_eq_true hc
    rw[if_pos this];have hr:10∈r:=by
     rcases List.mem_cons.1 hm with e|e
     ·exact absurd e.symm hc
     ·exact e
    have:=ih hr;simp only[List.length_cons];omega
 ·cases h
theorem ZdP {s:ByteArray}{done:List Entry}{at_:Nat}{st day:Int}{e:Entry}{l:List UInt8}(h:Zag s done at_ st day)(hs:Yo st day (s.data.toList.drop at_)=some (e,l)) :
  Zag s (done++[e]) (at_+(l.length+1)) (stampB st (entB e)) e.fDay:=by
 obtain⟨h1,f,h2,h3⟩:=h;have hl:l.length+1<=s.size-at_:=by
  unfold Yo at hs;split at hs
  ·cases hs
  ·rename_i x hx
   have:=Vg hx;rw[List.length_drop,ZM] at this;split at hs
   ·cases hs
   ·split at hs
    ·injection hs with hs;injection hs with _ hs;subst hs;exact this
    ·cases hs
 obtain⟨g,rfl⟩:∃g,f=g+1:=⟨f-1,by omega⟩;refine⟨by omega,g,by omega,?_⟩;rw[h3];simp only[readK,hs];rw[List.drop_drop];simp[Nat.add_assoc]
theorem QP {s:ByteArray}{done:List Entry}{at_:Nat}{st day:Int}(h:Zag s done at_ st day)(hs:Yo st day (s.data.toList.drop at_)=none):rdLog s=(done,at_,st):=by
 obtain⟨h1,f,h2,h3⟩:=h;obtain⟨g,rfl⟩:∃g,f=g+1:=⟨f-1,by omega⟩;rw[h3];simp only[readK,hs];simp
theorem Wj {st day:Int}{rest:List UInt8}(h:Yz rest=none):Yo st day rest=none:=by unfold Yo;rw[h]
theorem X4 {st day:Int}{rest l:List UInt8}(h:Yz rest=some l)(he:Vt l=none):Yo st day rest=none:=by unfold Yo;rw[h];simp only[he]
theorem U4 {st day:Int}{rest l:List UInt8}{e:Entry}(h:Yz rest=some l)(he:Vt l=some e)(hk:Vv st day l e=false):Yo st day rest=none:=by unfold Yo;rw[h];simp only[he,hk];rfl
theorem VU {st day:Int}{rest l:List UInt8}{e:Entry}(h:Yz rest=some l)(he:Vt l=some e)(hk:Vv st day l e=true):Yo st day rest=some (e,l):=by unfold Yo;rw[h];simp only[he,hk];rfl
theorem ZiD {l:List UInt8}{e:Entry}(h:Vt l=some e):e.ok=true:=by
 unfold Vt at h;split at h
 ·split at h
  ·rename_i hk;injection h with h;subst h;exact hk.2.2
  ·cases h
 ·cases h
def RB (w:World)(base g:Nat)(s:ByteArray)(done:List Entry)(at_:Nat)(st:Int):Prop :=
 ∃v,w.heap[g]?=some (.cells #[.string s,.int .i64 at_,.int .i64 st,v] 166 (0,0))/\Own Entry.cells 116 3 w base v done.length done
def lastDay (l:List Entry):Int:=match l.getLast? with
 | some e=>e.fDay
 | none=>0
theorem WT (l:List Entry)(e:Entry):lastDay (l++[e])=e.fDay:=by simp[lastDay]
theorem Vi {l:List Entry}{k:Nat}{e:Entry}(h:l[k]?=some e)(hk:k+1=l.length):lastDay l=e.fDay:=by
 unfold lastDay;rw[List.getLast?_eq_getElem?,show l.length-1=k by omega,h]
theorem Vd (g:Nat)(w:World)(base at_:Nat)(s:ByteArray)(st:Int)(v:Value)(done:List Entry)(hm:done.length<=1048576)
  (hb:w.heap[g]?=some (.cells #[.string s,.int .i64 at_,.int .i64 st,v] 166 (0,0))) (ho:Own Entry.cells 116 3 w base v done.length done) :
  Calls Tryz.prog 208 #[.pointer (some ⟨g,0,none⟩)] w λe w'=>e = .returned (.int .i64 (lastDay done))/\∃n,w'=w.drewN n:=by
 obtain⟨A,c,rfl,_⟩:=ho.slice;have hr:=ho.arr Entry.len;have c3:w.cell? ⟨g,3,none⟩=some (.slice A done.length c):=by rw[cell_of_row _ _ _ _ _ _ hb];rfl
 clear hb ho;obtain⟨n,hn⟩:∃n,n=done.length:=⟨_,rfl⟩;rw[←hn] at hr c3 hm;have hN:=Za hn;clear hn;rcases Nat.eq_zero_or_pos n with h0|h0
 ·subst h0
  have hd:Hid (lastDay done=0):=Za (by rw[List.eq_nil_of_length_eq_zero hN.out.symm];rfl);go_enter Tryz.func208,Tryz.ntmps208;go_wp2
  go_ret;exact⟨UL hd.out.symm,0,rfl⟩
 ·obtain⟨b,o,x,rfl,_,hx,d0,d1,d2⟩:=hr.Entry (k:=n-1) (by omega)
  have hd:Hid (lastDay done=x.fDay):=Za (Vi hx (by rw[←hN.out];omega));have e0:((n:Int)==0)=false:=by simp;omega
  have hi0:(0:Int)<=(n:Int)-1:=by omega
  have hi1:(n:Int)-1<(n:Int):=by omega
  have hw:IntKind.i64.wrap ((n:Int)-1)=(n:Int)-1:=IntWalk.i64_in _ (by omega);have hi2:((n:Int)-1).toNat=n-1:=by omega
  have hi3:(1:Int)<=(n:Int):=by omega
  clear hx;go_enter Tryz.func208,Tryz.ntmps208;go_wp2
  go_quiet (fail)
  go_wp2
  go_ret;exact⟨UL hd.out.symm,_,rfl⟩
end Go.Proofs.YtfpaejlipaainaaGreatDoor
