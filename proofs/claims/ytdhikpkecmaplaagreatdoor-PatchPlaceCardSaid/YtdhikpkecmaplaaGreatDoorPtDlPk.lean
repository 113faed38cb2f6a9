/- The layer patch: slices.Delete of one patch out of a row of the call's own, walked. -/
import Derived.Test.YtdhikpkecmaplaaGreatDoorBookSPk
import Derived.Test.YtdhikpkecmaplaaGreatDoorPtNMk
set_option linter.unusedSimpArgs false
set_option linter.unusedVariables false
set_option maxRecDepth 100000
set_option maxHeartbeats 4000000
namespace Go.Proofs.YtdhikpkecmaplaaGreatDoor
open Go.RowKit

theorem run_append_row3 {P:Program} (W:World) (T ty e:TypeId) (i:TypeInfo) (hu:P.underlying T=some (.slice e)) (hi:P.info? e=some i) (hs:i.size=3) (g n cap:Nat) (ad:Addr) (m c:Nat) (cur:Array Value) (t:TypeId) (cs:List Value)
  (hg:W.heap[g]? = some (.cells cur t (0,0))) (hn:cs.length=m * 3) (hsrc:∀ j v,cs[j]? = some v->W.cell? (ad.add j)=some v) (hroom:n+m<=cap) (hfit:n * 3+cs.length<=cur.size) (h1:∀ v ∈ cs,v.oneCell'=true) :
  (Builtin.append_ #[T,T] ty #[.slice (some ⟨g,0,none⟩) n cap,.slice (some ad) m c]).run P W=.ok (.slice (some ⟨g,0,none⟩) (n+m) cap) (W.setRow g (cur.toList.take (n * 3)++(cs++cur.toList.drop (n * 3+cs.length))).toArray):=by
 have hfc:=run_firstCells_some (P:=P) W 3 m ad m c cs hn hsrc;have hst:=run_storeCells_at P g (n * 3) t cs 0 cur W hg (by omega) h1;simp only [Nat.add_zero,List.append_assoc] at hst;simp [Builtin.append_,run_underlying hu,sizeOf,typeInfo,hi,Builtin.lenOf,hroom,hs,hfc,zoS,hst]
theorem run_clear_row {P:Program} (W:World) (T ty e:TypeId) (z:Value) (hu:P.underlying T=some (.slice e)) (hv:∀ w,(zeroValue e).run P w=.ok z w) (g off c:Nat) (cur:Array Value) (t:TypeId) (cs:List Value) (hz:(Builtin.zeroCells z.cells 1).toList=cs)
  (hg:W.heap[g]? = some (.cells cur t (0,0))) (hfit:off+cs.length<=cur.size) (h1:∀ v ∈ cs,v.oneCell'=true) :
  (Builtin.clear_ #[T] ty #[.slice (some ⟨g,off,none⟩) 1 c]).run P W=.ok (.tuple #[]) (W.setRow g (cur.toList.take off++(cs++cur.toList.drop (off+cs.length))).toArray):=by
 have hst:=run_storeCells_at P g off t cs 0 cur W hg (by omega) h1;simp only [Nat.add_zero,List.append_assoc] at hst;simp [Builtin.clear_,run_underlying hu,hv,hz,hst]
theorem step_append_runI {P:Program} {ops:Array Oper} {o:Oper} {a:Act} {w:World} {K:Act->World->Prop} {Q:Exit->Act->World->Prop} {E:Prop}
  (hg:o.guard=none) (d x:Operand) (dT sT:TypeId) (hop:o.op=Op.call { callee:=Callee.builtin Builtin.append,args:=#[d,x],argTypes:=#[dT,sT] })
  (v u:Value) (hd:a.eval d=v) (hx:a.eval x=u) {v':Value} {w':World} (hr:(Builtin.append_ #[dT,sT] o.type #[v,u]).run P w=.ok v' w') (hK:K (a.put o.dst v') w') :
  if Region.wanted o (yielded ops a.tmps)=true then Oper.wp P o a w K Q else E:=by
 have hw:Region.wanted o (yielded ops a.tmps)=true:=by simp [Region.wanted,hg]
 rw [if_pos hw];unfold Oper.wp;simp [execOp,hop,resolve,invoke,builtin,hd,hx,hr,Result.andThen];exact hK
def zeroP3 : List Value := [.int .i64 0, .int .i64 0, .string { data := #[] }]
theorem cut_plain {A X D R:List Value} (Z:List Value) (hX:X.length=3) (hZ:Z.length=3) :
  ((A++(X++(D++R))).take A.length++(D++(A++(X++(D++R))).drop (A.length+D.length))).take (A.length+D.length)=A++D:=by
 rw [List.take_left,<- List.append_assoc,<- List.length_append,List.take_left]
theorem cut_len {A X D R:List Value} (hX:X.length=3):((A++(X++(D++R))).take A.length++(D++(A++(X++(D++R))).drop (A.length+D.length))).length=(A++(X++(D++R))).length:=by
 rw [List.take_left];simp only [List.length_append,List.length_drop];omega
theorem cellsP_cut (l:List Pt) (i:Nat) (h:i < l.length):znD l=znD (l.take i)++(l[i].cells++znD (l.drop (i+1))):=by
 have e:l=l.take i++l[i] :: l.drop (i+1):=by rw [List.getElem_cons_drop,List.take_append_drop]
 calc znD l=znD (l.take i++l[i] :: l.drop (i+1)):=by rw [<- e]
  _=_:=by rw [zox];rfl
theorem delete_at {w:World} {B g cap i:Nat} {l:List Pt} {cur:Array Value} (hg:w.heap[g]? = some (.cells cur 32 (0,0))) (hBg:B<=g) (hBw:B<=w.heap.size) (hcap:cap<=maxLen) (hroom:l.length<=cap) (hcs:cur.size=cap * 3) (htake:cur.toList.take (l.length * 3)=znD l) (hi:i < l.length) (hl:l.length<=1000) :
  Calls Tryz.prog 59 #[.slice (some ⟨g,0,none⟩) l.length cap,.int .i64 i,.int .i64 ((i:Int)+1)] w fun e w'=>(∃ v',e=.returned v'/\w'.ownsRow B 32 3 v' (l.take i++l.drop (i+1)).length (znD (l.take i++l.drop (i+1))))/\Below B w w'/\w.grownBy w' (some g):=by
 have hT:=Tryz.underlying24;obtain ⟨i0,hi0,hz0,hzs,hzb⟩:=info_parts zpt;have hlen2:(l.take i++l.drop (i+1)).length=l.length - 1:=by rw [List.length_append,List.length_take,List.length_drop];omega
 rw [hlen2];obtain ⟨A,hA⟩:∃ A,A=znD (l.take i):=⟨_,rfl⟩;obtain ⟨D,hD⟩:∃ D,D=znD (l.drop (i+1)):=⟨_,rfl⟩;obtain ⟨X,hX⟩:∃ X,X=l[i].cells:=⟨_,rfl⟩;have hAl:A.length=i * 3:=by rw [hA,znR,List.length_take];congr 1;omega
 have hDl:D.length=(l.length - (i+1)) * 3:=by rw [hD,znR,List.length_drop]
 have hXl:X.length=3:=by rw [hX];rfl
 have hAD:znD l=A++(X++D):=by rw [hA,hD,hX];exact cellsP_cut l i hi
 obtain ⟨R,hR⟩:∃ R,R=cur.toList.drop (l.length * 3):=⟨_,rfl⟩
 have hcur:cur.toList=A++(X++(D++R)):=by
  have:cur.toList=znD l++R:=by rw [<- htake,hR,List.take_append_drop]
  rw [this,hAD];simp only [List.append_assoc]
 have hcl:cur.toList.length=cap * 3:=by simp [hcs]
 have hRl:A.length+(3+(D.length+R.length))=cap * 3:=by rw [<- hcl,hcur];simp only [List.length_append,hXl]
 have hD1:∀ v ∈ D,v.oneCell'=true:=fun v hv=>by rw [hD] at hv;exact List.all_eq_true.1 (zpq _) v hv
 have hcell:∀ j v,cur.toList[j]? = some v->w.cell? ⟨g,j,none⟩=some v:=fun j v hj=>by simp [World.cell?,hg];simpa using hj
 obtain ⟨cur1,hcur1⟩:∃ c,c=(cur.toList.take (i * 3)++(D++cur.toList.drop (i * 3+D.length))).toArray:=⟨_,rfl⟩;have hc1:cur1.toList=(A++(X++(D++R))).take A.length++(D++(A++(X++(D++R))).drop (A.length+D.length)):=by rw [hcur1,hcur,hAl]
 have hc1s:cur1.size=cap * 3:=by
  have:cur1.toList.length=cap * 3:=by rw [hc1,cut_len hXl,<- hcur,hcl]
  simpa using this
 obtain ⟨ad,had,hsrc⟩:∃ ad:Addr,(if cap=i+1 then (some ⟨g,0,none⟩:Option Addr) else some ⟨g,(i+1) * 3,none⟩)=some ad/\Hid (∀ (W:World),W.heap=w.heap->∀ j v,D[j]? = some v->W.cell? (ad.add j)=some v):=by
  by_cases h:cap=i+1
  ·refine ⟨⟨g,0,none⟩,by simp [h],fun W _ j v hj=>?_⟩;have h0:D.length=0:=by rw [hDl];omega
   rw [List.length_eq_zero_iff.1 h0] at hj;simp at hj
  ·refine ⟨⟨g,(i+1) * 3,none⟩,by simp [h],fun W hW j v hj=>?_⟩;have hjl:=(List.getElem?_eq_some_iff.1 hj).1;rw [zoS]
   have:=hcell ((i+1) * 3+j) v (by
    rw [hcur,List.getElem?_append_right (by omega),List.getElem?_append_right (by omega),show (i+1) * 3+j - A.length - X.length=j by omega,List.getElem?_append_left hjl];exact hj)
   unfold World.cell? at this ⊢;rw [hW];exact this
 have hap:∀ (W:World),W.heap=w.heap->∀ ty c,(Builtin.append_ #[24,24] ty #[.slice (some ⟨g,0,none⟩) i cap,.slice (some ad) (l.length - (i+1)) c]).run Tryz.prog W=.ok (.slice (some ⟨g,0,none⟩) (i+(l.length - (i+1))) cap) (W.setRow g cur1):=fun W hW ty c=>by
  rw [hcur1];exact run_append_row3 W _ ty 32 i0 hT hi0 hzs g i cap ad (l.length - (i+1)) c cur 32 D (by rw [hW];exact hg) hDl (hsrc.out W hW) (by omega) (by omega) hD1
 obtain ⟨cur2,hcur2⟩:∃ c,c=(cur1.toList.take ((i+(l.length - (i+1))) * 3)++(zeroP3++cur1.toList.drop ((i+(l.length - (i+1))) * 3+zeroP3.length))).toArray:=⟨_,rfl⟩
 have hc2s:cur2.size=cap * 3:=by
  rw [hcur2];have:cur1.toList.length=cap * 3:=by simp [hc1s]
  simp only [List.size_toArray,List.length_append,List.length_take,List.length_drop,this,show zeroP3.length=3 from rfl];omega
 have hfin:cur2.toList.take ((l.length - 1) * 3)=A++D:=by
  have e1:(i+(l.length - (i+1))) * 3=A.length+D.length:=by omega
  have e2:(l.length - 1) * 3=A.length+D.length:=by omega
  have e3:(cur1.toList.take (A.length+D.length)).length=A.length+D.length:=by
   rw [List.length_take];have:cur1.toList.length=cap * 3:=by simp [hc1s]
   omega
  rw [hcur2,e1,e2];simp only [List.toList_toArray];have:=List.take_left' (l₂:=zeroP3++cur1.toList.drop (A.length+D.length+zeroP3.length)) e3;rw [this,hc1];exact cut_plain zeroP3 hXl rfl
 have hzv:∀ w,(zeroValue 32).run Tryz.prog w=.ok (.agg #[.int .i64 0,.int .i64 0,.string { data:=#[] }]) w:=fun w=>by simp [zeroValue,typeInfo,hi0,hz0,go_sem]
 have hclr:∀ (W:World),W.heap=(w.setRow g cur1).heap->∀ ty c k,k=1->(Builtin.clear_ #[24] ty #[.slice (some ⟨g,(i+(l.length - (i+1))) * 3,none⟩) k c]).run Tryz.prog W=.ok (.tuple #[]) (W.setRow g cur2):=fun W hW ty c k hk=>by
  subst hk;rw [hcur2]
  exact run_clear_row W _ ty 32 _ hT hzv g _ c cur1 32 zeroP3 (by kernel_rfl) (by rw [hW];exact setRow_heap w g _ _ _ _ hg) (by rw [show zeroP3.length=3 from rfl];omega) (fun v hv=>by
   simp only [zeroP3,List.mem_cons,List.not_mem_nil,or_false] at hv
   rcases hv with rfl | rfl | rfl <;> rfl)
 have Hfin:=zh hfin;have HA:=zh hA;have HD:=zh hD;have Hg:=zh hg;have Hap:=zh hap;have Hclr:=zh hclr;have Hc2:=zh hc2s;have Hcap:=zh hcap;have Hl2:=zh hlen2;clear hfin hcur2 hc2s hcur1 hcur hc1 hc1s hR hA hD hX hAD htake hAl hDl hXl hRl hcs hcl hcell hD1 hsrc hap hclr hzv hg hcap hz0 hzs hzb hi0 hlen2
 generalize hnl:l.length=n at *
 have Hn:=zh hnl;clear hnl;have hz2:¬ ((i:Int)=(i:Int)+1):=by omega
 have hb1:(0:Int)<=(i:Int)+1:=by omega
 have hb2:(i:Int)+1<=(n:Int):=by omega
 have hb3:(n:Int)<=(cap:Int):=by omega
 have hb4:(i:Int)<=(n:Int):=by omega
 have hb5:(i:Int)<=(i:Int)+1:=by omega
 have hb6:((i:Int)+1).toNat=i+1:=by omega
 have hb7:¬ (cap=i+(n - (i+1))):=by omega
 have hb8:(i:Int)<=(cap:Int):=by omega
 have hb9:(i:Int)+1<=(cap:Int):=by omega
 go_enter Tryz.func59,Tryz.ntmps59
 have mixed:Tryz.prog.follows .mixedOrders=true:=by kernel_rfl
 go_wp2_with fail
 go_region_law_o (refine step_append_runI rfl (.tmp 22) (.tmp 25) 24 24 rfl (.slice (some ⟨g,0,none⟩) i cap) (.slice (some ad) (n - (i+1)) (cap - (i+1))) (by simp [Act.eval,Act.put]) (by simp [Act.eval,Act.put]) (Hap.out w.drew rfl _ _) ?_)
 have hc1:∀ ty c,(Builtin.clear_ #[24] ty #[.slice (some ⟨g,(i+(n - (i+1))) * 3,none⟩) (n - (i+(n - (i+1)))) c]).run Tryz.prog (w.drew.setRow g cur1)=.ok (.tuple #[]) ((w.drew.setRow g cur1).setRow g cur2):=fun ty c=>Hclr.out (w.drew.setRow g cur1) rfl ty c _ (by omega)
 go_wp2_with fail
 go_ret;refine ⟨⟨_,rfl,?_⟩,?_,?_⟩
 ·have hnl:=Hn.out;have e1:i+(n - (i+1))=n - 1:=by omega
  rw [e1];refine ⟨by rw [znR,Hl2.out],.inr ⟨g,cap,cur2,rfl,hBg,setRow_heap _ g cur1 _ _ _ (setRow_heap _ g cur _ _ _ Hg.out),by omega,Hcap.out,Hc2.out,?_⟩⟩;rw [Hfin.out,HA.out,HD.out,<- zox]
 ·exact Below.trans (b:=w.drew.setRow g cur1) (zoG (Below.refl B w).drew hBg _) (zoG (Below.refl B _) hBg _)
 ·exact zpK (b:=w.drew.setRow g cur1) (zpK (b:=w.drew) ⟨rfl,rfl,rfl,zr _,fun _ _ _=>rfl⟩ (zpJ w.drew g cur1)) (zpJ _ g cur2)
theorem delete_any {w:World} {B:Nat} {l:List Pt} {v:Value} (hown:w.ownsRow B 32 3 v l.length (znD l)) (hBw:B<=w.heap.size) (hl:l.length<=1000) {i:Nat} (hi:i < l.length) :
  Calls Tryz.prog 59 #[v,.int .i64 i,.int .i64 ((i:Int)+1)] w fun e w'=>(∃ v',e=.returned v'/\w'.ownsRow B 32 3 v' (l.take i++l.drop (i+1)).length (znD (l.take i++l.drop (i+1))))/\Below B w w'/\w.grownBy w' v.ownBlock:=by
 obtain ⟨h1,h2⟩:=hown;rcases h2 with ⟨rfl,h0⟩ | ⟨g,cap,cur,rfl,hg,hh,hn,hm,hs,ht⟩
 ·omega
 ·exact delete_at hh hg hBw hm hn hs ht hi hl
end Go.Proofs.YtdhikpkecmaplaaGreatDoor
