/- General facts on slices that are read, on memory that only grows, and on maps with integer keys: they are used by every later text; no condition. -/
import Derived.Test.YtoaojdobjinhfaaGreatDoorRParAC
set_option linter.unusedSimpArgs false
set_option linter.unusedVariables false
set_option maxRecDepth 100000
set_option maxHeartbeats 16000000
namespace Go.Proofs.YtoaojdobjinhfaaGreatDoor
open Go.RowKit

theorem zbm {P:Program} {ops:Array Oper} {rest:List Oper} {o:Oper} {a:Act} {Q:Exit→Act→World→Prop} (hgd:o.guard=none) (s x:Operand) (t:TypeId)
  (ho:o.op=.call { callee:=.builtin .append,args:=#[s,x],argTypes:=#[t,t] }) {w0:World} {arr:Array Value} {e':TypeId}
  {base:Nat} {e:TypeId} {size:Nat} {v:Value} {n:Nat} {xs:List Value} (hown:w0.ownsRow base e size v n xs) {z:Value} {bytes:Nat}
  (hi:(P.info? e).map (fun i=>(i.zero,i.size,i.bytes))=some (some z,size,bytes)) (ht:P.underlying t=some (.slice e)) (hzs:z.cells.size=size) (hsz:0 < size)
  (hs:a.eval s=v) (m c:Nat) (hx:a.eval x=.slice (some ⟨w0.heap.size,0,none⟩) m c) (hl:arr.size=m * size) (h1:arr.toList.all (fun u=>u.oneCell')=true)
  (h63:n+m≤maxLen) (hbytes:(n+m) * bytes≤140737488355328) (hbase:base≤w0.heap.size)
  (h:∀ v' w',w'.ownsRow base e size v' (n+m) (xs++arr.toList)→w0.grownBy w' v.ownBlock→Below base w0 w'→wpList P ops Q rest (a.put o.dst v') w'):wpList P ops Q (o :: rest) a (w0.alloc (.cells arr e')):=by
 obtain ⟨i,hi,hz0,hz1,hz2⟩:=info_parts hi;refine wpList_append_own _ hgd s x t ho base e i z size bytes ht hi hz0 hz1 hz2 hzs hsz v n xs hs (hown.alloc _) ⟨w0.heap.size,0,none⟩ m c arr.toList hx (by simpa using hl) ?_ (fun u hu=>List.all_eq_true.1 h1 u hu) h63 hbytes (by simp;omega) ?_
 ·intro j u hu;have:(⟨w0.heap.size,0,none⟩:Addr).add j=⟨w0.heap.size,j,none⟩:=by unfold Addr.add;split <;> simp_all
  rw [this,World.cell?_alloc_new];simpa using hu
 ·intro v' w' ho' hg _;have hg':w0.grownBy w' v.ownBlock:=⟨hg.os,hg.tape,hg.output,by have:=hg.size;simp at this;omega,fun k hk hne=>by rw [hg.block k (by simp;omega) hne];exact Below.heap_alloc w0 _ k hk⟩;exact h v' w' ho' hg' (Below.of_grown hg' hbase (fun k hk=>(hown.lt k hk).1))

theorem zml {cm:Bool} {l c:Int}:zam [] cm l c=([],l,c):=rfl
theorem zhn {p:UInt8→Bool} {l:List UInt8} {n:Nat} (hn:n≤l.length) (h1:∀ (j:Nat) (h:j < l.length),j < n→p l[j]=true) (h2:∀ h:n < l.length,p l[n]=false):l.takeWhile p=l.take n:=by
 induction l generalizing n with
 | nil=>simp
 | cons b l ih =>
  cases n with
  | zero =>
   have:=h2 (by simp);simp at this
   simp [this]
  | succ n =>
   have hb:=h1 0 (by simp) (by omega);simp at hb;rw [List.takeWhile_cons,if_pos hb,List.take_succ_cons,ih (by simpa using hn) (fun j h hj=>by have:=h1 (j+1) (by simpa using h) (by omega);simpa using this) (fun h=>by have:=h2 (by simpa using h);simpa using this)]
theorem zfw {b:UInt8} (h:zaG b=true):48≤(b.toNat:Int)∧(b.toNat:Int)≤57:=by
 unfold zaG za9 at h;simpa [Bool.and_eq_true] using h
def numE : Option Int → Ending
  | none => .returned (.tuple #[.int .i64 0, .bool false])
  | some n => .returned (.tuple #[.int .i64 n, .bool true])
theorem zeX {l:List UInt8} {k:Nat} (hk:k < l.length) (n:Int):zaI (l.drop k) n=if zaG l[k]=false then none else if n > (9223372036854775807 - ((l[k].toNat:Int) - 48)) / 10 then none else zaI (l.drop (k+1)) (10 * n+((l[k].toNat:Int) - 48)):=by
 rw [List.drop_eq_getElem_cons hk,zaI]
theorem zg2 (s:ByteArray) (w:World) (hs:s.size≤9223372036854775807) :
  Calls Tryz.prog 110 #[.string s] w fun e w'=>e=numE (zaS s.data.toList)∧w=w':=by
 have Hlen:=zh (zaq s);have Hget:Hid (∀ (k:Nat) (h:k < s.size),s.data.toList[k]'(by rw [zaq];exact h)=s[k]):=zh (zdH s);by_cases h1:1 < s.size
 ·have h0:0 < s.size:=by omega
  have hh:s.data.toList.head?.map UInt8.toNat=some s[0].toNat:=by
   have e:=Hget.out 0 h0;rw [List.head?_eq_getElem?,List.getElem?_eq_getElem (by rw [Hlen.out];exact h0),e];rfl
  have h1':(1:Int) < s.size:=by omega
  obtain ⟨q,hq,hq2⟩:∃ q:Bool,((s[0].toNat:Int) == 48)=q∧(q=true ↔ s[0].toNat=48):=⟨_,rfl,by rw [beq_iff_eq];omega⟩
  have Hr:Hid (zaS s.data.toList=if q=true then none else zaI s.data.toList 0):=zh (by
   unfold zaS;rw [hh,Hlen.out];by_cases e:s[0].toNat=48
   ·rw [if_pos ⟨h1,by rw [e]⟩,if_pos (hq2.2 e)]
   ·rw [if_neg (fun h=>e (by simpa using h.2)),if_neg (fun h=>e (hq2.1 h))])
  clear hh hq2;cases q
  ·have HR:Hid (zaS s.data.toList=zaI s.data.toList 0):=zh (by rw [Hr.out,if_neg (by simp)]);go_enter Tryz.func110,Tryz.ntmps110
   go_wp2;go_loopw [2,3,4,5,6,15,16,17,18,19,20,21,22,23,24,25,26,27,28,29,30,31,32,33,34,35,36,37,38,39] (fun _ _ t4 t5 _ _ _ _ _ _ _ _ _ _ _ _ _ _ _ _ _ _ _ _ _ _ _ _ _ _ wr=>∃ (k:Nat) (n:Int),k≤s.size∧t5=.int .i64 k∧t4=.int .i64 n∧0≤n∧n≤9223372036854775807∧Hid (zaI s.data.toList 0=zaI (s.data.toList.drop k) n)∧wr=w) (fun _ _ _ t5 _ _ _ _ _ _ _ _ _ _ _ _ _ _ _ _ _ _ _ _ _ _ _ _ _ _ _=>s.size - (intOf t5).toNat)
   case atStart=>exact ⟨0,0,by omega,rfl,rfl,by omega,by omega,zh rfl,rfl⟩
   case round =>
    obtain ⟨k,n,hk,rfl,rfl,hn0,hn1,Hv,rfl⟩:=hrel;by_cases hlt:k < s.size
    ·have Hst:=zh (zeX (l:=s.data.toList) (k:=k) (by rw [zaq];exact hlt) n);have Hdr:Hid (zaG s[k]=true→48≤(s[k].toNat:Int)∧(s[k].toNat:Int)≤57):=zh zfw;rw [zdH s k hlt] at Hst;have HD:=zh (zcP (s[k].toNat:Int) wr);have Hdb:Hid (zaG s[k]=za9 (s[k].toNat:Int)):=zh rfl;have hb1:s[k].toNat≤255:=by have:=s[k].toNat_lt;omega
     obtain ⟨q,hq⟩:∃ q:Bool,za9 (s[k].toNat:Int)=q:=⟨_,rfl⟩;rw [hq] at HD Hdb;clear hq;cases q
     ·go_wp2_with (go_at_call 81;refine HD.out.mono ?_;rintro e w2 ⟨rfl,rfl⟩)
      go_ret2;refine ⟨?_,rfl⟩;have e:zaS s.data.toList=none:=by rw [HR.out,Hv.out,Hst.out,if_pos Hdb.out]
      rw [e];rfl
     ·obtain ⟨d1,d2⟩:=Hdr.out Hdb.out
      generalize hx:s[k]=x at *
      obtain ⟨d,hd⟩:∃ d:Int,(x.toNat:Int) - 48=d:=⟨_,rfl⟩;rw [hd] at Hst;have hd0:0≤d:=by omega
      have hd9:d≤9:=by omega
      go_wp2_with (go_at_call 81;refine HD.out.mono ?_;rintro e w2 ⟨rfl,rfl⟩)
      ·have h:(9223372036854775807 - d) / 10 < n:=by assumption
       have Hh:=zh h;clear h;go_ret2;refine ⟨?_,rfl⟩
       have e:zaS s.data.toList=none:=by
        rw [HR.out,Hv.out,Hst.out,if_neg (by rw [Hdb.out];simp),if_pos (show n > _ from Hh.out)]
       rw [e];rfl
      ·have h:n≤(9223372036854775807 - d) / 10:=by assumption
       have h2:10 * n+d≤9223372036854775807:=by omega
       have h3:0≤10 * n+d:=by omega
       have h4:¬ n > (9223372036854775807 - d) / 10:=by omega
       have H2:=zh h2;have H3:=zh h3;have H4:=zh h4;clear h h2 h3 h4;go_roundw
       case rel=>exact ⟨k+1,10 * n+d,by omega,by go_num,rfl,H3.out,H2.out,zh (by rw [Hv.out,Hst.out,if_neg (by rw [Hdb.out];simp),if_neg H4.out]),by first | rfl | trivial⟩
       case measure=>simp [intOf];omega
    ·obtain rfl:k=s.size:=by omega
     have hlt1:¬ (s.size:Int) < s.size:=by omega
     go_wp2;go_ret2;refine ⟨?_,rfl⟩
     have e:zaS s.data.toList=some n:=by
      rw [HR.out,Hv.out,List.drop_of_length_le (by rw [zaq];omega),zaI]
     rw [e];rfl
  ·go_enter Tryz.func110,Tryz.ntmps110
   go_wp2;go_ret2;refine ⟨?_,rfl⟩;have e:zaS s.data.toList=none:=by rw [Hr.out];simp
   rw [e];rfl
 ·have h1':¬ (1:Int) < s.size:=by omega
  have HR:Hid (zaS s.data.toList=zaI s.data.toList 0):=zh (by rw [zaS,if_neg (fun h=>by rw [zaq] at h;exact h1 h.1)]);go_enter Tryz.func110,Tryz.ntmps110
  go_wp2;go_loopw [2,3,4,5,6,15,16,17,18,19,20,21,22,23,24,25,26,27,28,29,30,31,32,33,34,35,36,37,38,39] (fun _ _ t4 t5 _ _ _ _ _ _ _ _ _ _ _ _ _ _ _ _ _ _ _ _ _ _ _ _ _ _ wr=>∃ (k:Nat) (n:Int),k≤s.size∧t5=.int .i64 k∧t4=.int .i64 n∧0≤n∧n≤9223372036854775807∧Hid (zaI s.data.toList 0=zaI (s.data.toList.drop k) n)∧wr=w) (fun _ _ _ t5 _ _ _ _ _ _ _ _ _ _ _ _ _ _ _ _ _ _ _ _ _ _ _ _ _ _ _=>s.size - (intOf t5).toNat)
  case atStart=>exact ⟨0,0,by omega,rfl,rfl,by omega,by omega,zh rfl,rfl⟩
  case round =>
   obtain ⟨k,n,hk,rfl,rfl,hn0,hn1,Hv,rfl⟩:=hrel;by_cases hlt:k < s.size
   ·have Hst:=zh (zeX (l:=s.data.toList) (k:=k) (by rw [zaq];exact hlt) n);have Hdr:Hid (zaG s[k]=true→48≤(s[k].toNat:Int)∧(s[k].toNat:Int)≤57):=zh zfw;rw [zdH s k hlt] at Hst;have HD:=zh (zcP (s[k].toNat:Int) wr);have Hdb:Hid (zaG s[k]=za9 (s[k].toNat:Int)):=zh rfl;have hb1:s[k].toNat≤255:=by have:=s[k].toNat_lt;omega
    obtain ⟨q,hq⟩:∃ q:Bool,za9 (s[k].toNat:Int)=q:=⟨_,rfl⟩;rw [hq] at HD Hdb;clear hq;cases q
    ·go_wp2_with (go_at_call 81;refine HD.out.mono ?_;rintro e w2 ⟨rfl,rfl⟩)
     go_ret2;refine ⟨?_,rfl⟩;have e:zaS s.data.toList=none:=by rw [HR.out,Hv.out,Hst.out,if_pos Hdb.out]
     rw [e];rfl
    ·obtain ⟨d1,d2⟩:=Hdr.out Hdb.out
     generalize hx:s[k]=x at *
     obtain ⟨d,hd⟩:∃ d:Int,(x.toNat:Int) - 48=d:=⟨_,rfl⟩;rw [hd] at Hst;have hd0:0≤d:=by omega
     have hd9:d≤9:=by omega
     go_wp2_with (go_at_call 81;refine HD.out.mono ?_;rintro e w2 ⟨rfl,rfl⟩)
     ·have h:(9223372036854775807 - d) / 10 < n:=by assumption
      have Hh:=zh h;clear h;go_ret2;refine ⟨?_,rfl⟩
      have e:zaS s.data.toList=none:=by
       rw [HR.out,Hv.out,Hst.out,if_neg (by rw [Hdb.out];simp),if_pos (show n > _ from Hh.out)]
      rw [e];rfl
     ·have h:n≤(9223372036854775807 - d) / 10:=by assumption
      have h2:10 * n+d≤9223372036854775807:=by omega
      have h3:0≤10 * n+d:=by omega
      have h4:¬ n > (9223372036854775807 - d) / 10:=by omega
      have H2:=zh h2;have H3:=zh h3;have H4:=zh h4;clear h h2 h3 h4;go_roundw
      case rel=>exact ⟨k+1,10 * n+d,by omega,by go_num,rfl,H3.out,H2.out,zh (by rw [Hv.out,Hst.out,if_neg (by rw [Hdb.out];simp),if_neg H4.out]),by first | rfl | trivial⟩
      case measure=>simp [intOf];omega
   ·obtain rfl:k=s.size:=by omega
    have hlt1:¬ (s.size:Int) < s.size:=by omega
    go_wp2;go_ret2;refine ⟨?_,rfl⟩
    have e:zaS s.data.toList=some n:=by
     rw [HR.out,Hv.out,List.drop_of_length_le (by rw [zaq];omega),zaI]
    rw [e];rfl

section
variable {P : Program} {ops : Array Oper} {a0 A : Act} {E : World → Prop} {Q : Exit → Act → World → Prop}

end
section
variable {P : Program} {l : List Oper} {a0 : Act} {T : List (Option Value)} {phi : Nat → Value → World → Prop} {w0 : World} {Q : Exit → Act → World → Prop}

end
section
variable {P : Program} {E : World → Prop}
end
section
variable {P : Program} {ops : Array Oper} {a0 A : Act} {E : World → Prop} {Q : Exit → Act → World → Prop}

end

section
variable {P : Program} {E : World → Prop}
end
def oneStr : ByteArray := ⟨#[43, 45, 42, 47, 37, 60, 62, 33, 61, 40, 41, 91, 93, 123, 125, 44, 59]⟩
theorem zjo:oneStr.data.toList.map UInt8.toNat=zbt:=rfl
theorem zdD (a:Nat):a ∈ zbt ↔ ∃ (j:Nat) (h:j < oneStr.size),oneStr[j].toNat=a:=by
 rw [← zjo,List.mem_map];constructor
 ·rintro ⟨x,hx,rfl⟩;obtain ⟨j,hj,rfl⟩:=List.getElem_of_mem hx;exact ⟨j,hj,rfl⟩
 ·rintro ⟨j,h,rfl⟩;exact ⟨oneStr[j],List.getElem_mem (l:=oneStr.data.toList) h,rfl⟩
theorem two_of (a b:UInt8) (x y:UInt8):([a,b] == [x,y])=decide ((a.toNat,b.toNat)=(x.toNat,y.toNat)):=by
 rw [Bool.eq_iff_iff,beq_iff_eq,decide_eq_true_eq];simp [UInt8.toNat_inj]
theorem zkN (s:ByteArray) (h2:2≤s.size) :
  ∃ p1 p2 p3 p4 p5 p6:Bool,((s.extract 0 2).toList == [61,61])=p1∧((s.extract 0 2).toList == [33,61])=p2∧((s.extract 0 2).toList == [60,61])=p3∧((s.extract 0 2).toList == [62,61])=p4∧((s.extract 0 2).toList == [38,38])=p5∧((s.extract 0 2).toList == [124,124])=p6 ∧
   zag s.data.toList=if (p1 || (p2 || (p3 || (p4 || (p5 || p6)))))=true then 2 else if (s[0]'(by omega)).toNat ∈ zbt then 1 else 0:=by
 refine ⟨_,_,_,_,_,_,rfl,rfl,rfl,rfl,rfl,rfl,?_⟩;have hl:s.data.toList.length=s.size:=zaq s
 have e0:s.data.toList=s[0] :: s[1] :: s.data.toList.drop 2:=by
  have h1:=List.drop_eq_getElem_cons (l:=s.data.toList) (i:=0) (by omega);have h2:=List.drop_eq_getElem_cons (l:=s.data.toList) (i:=1) (by omega);rw [List.drop_zero] at h1;rw [h1,h2];rfl
 have e1:(s.extract 0 2).toList=[s[0],s[1]]:=by
  rw [ByteArray.toList_eq,zbX,List.drop_zero,e0];rfl
 rw [e1,e0];simp only [two_of,zag,zbB];simp only [List.mem_cons,List.not_mem_nil,or_false,Bool.or_eq_true,decide_eq_true_eq];rfl
theorem zkO (s:ByteArray) (h0:0 < s.size) (h2:s.size < 2):zag s.data.toList=if (s[0]'h0).toNat ∈ zbt then 1 else 0:=by
 have hl:s.data.toList.length=s.size:=zaq s
 have e0:s.data.toList=[s[0]]:=by
  have h1:=List.drop_eq_getElem_cons (l:=s.data.toList) (i:=0) (by omega);rw [List.drop_zero,List.drop_of_length_le (by omega)] at h1;exact h1
 rw [e0];rfl
theorem ziO (s : ByteArray) (w : World) (h0 : 0 < s.size) (hs : s.size ≤ 9223372036854775807) :
    Calls Tryz.prog 111 #[.string s] w fun e w' => e = .returned (.int .i64 (zag s.data.toList : Nat)) ∧ Below w.heap.size w w' := by
  by_cases h2 : 2 ≤ s.size
  · have h2' : (2 : Int) ≤ s.size := by omega
    obtain ⟨p1, p2, p3, p4, p5, p6, q1, q2, q3, q4, q5, q6, hp⟩ := zkN s h2
    have hpp : (p1 || (p2 || (p3 || (p4 || (p5 || p6))))) = true ∨ (p1 || (p2 || (p3 || (p4 || (p5 || p6))))) = false := by cases (p1 || (p2 || (p3 || (p4 || (p5 || p6))))) <;> simp
    rcases hpp with hpp | hpp
    · rw [hpp, if_pos rfl] at hp
      have HS := zh hp
      clear hp
      cases p1 <;> cases p2 <;> cases p3 <;> cases p4 <;> cases p5 <;> cases p6
      all_goals first
      | (exfalso; revert hpp; decide)
      | (clear hpp
         go_enter Tryz.func111, Tryz.ntmps111
         go_wp2
         go_ret
         exact ⟨by rw [HS.out]; rfl, Below.refl _ _⟩)
    · rw [hpp, if_neg (by decide)] at hp
      have HS := zh hp
      obtain ⟨rfl, rfl, rfl, rfl, rfl, rfl⟩ : p1 = false ∧ p2 = false ∧ p3 = false ∧ p4 = false ∧ p5 = false ∧ p6 = false := by revert hpp; cases p1 <;> cases p2 <;> cases p3 <;> cases p4 <;> cases p5 <;> cases p6 <;> decide
      clear hp hpp
      go_enter Tryz.func111, Tryz.ntmps111
      go_wp2
      go_loopw [2, 5, 33, 34, 35, 36, 37, 38, 39, 40, 41, 42, 43, 44] (fun _ t5 _ _ _ _ _ _ _ _ _ _ _ _ wr => ∃ k : Nat, k ≤ 17 ∧ t5 = .int .i64 k ∧ Hid (∀ (j : Nat) (h : j < oneStr.size), j < k → oneStr[j].toNat ≠ s[0].toNat) ∧ Below w.heap.size w wr) (fun _ t5 _ _ _ _ _ _ _ _ _ _ _ _ _ => 17 - (intOf t5).toNat)
      case atStart => exact ⟨0, by omega, rfl, zh (by intro j _ hj; omega), Below.refl _ _⟩
      case round =>
        obtain ⟨k, hk, rfl, Hno, hb⟩ := hrel
        by_cases hlt : k < 17
        · have hlt1 : (k : Int) < 17 := by omega
          have hk2 : k < oneStr.size := hlt
          obtain ⟨q, hq, hq2⟩ : ∃ q : Bool, (s[0].toNat == (oneStr[k]'hk2).toNat) = q ∧ (q = true ↔ oneStr[k].toNat = s[0].toNat) := ⟨_, rfl, by rw [beq_iff_eq]; exact eq_comm⟩
          have Hq := zh hq2
          have Hb := zh hb
          have hsz : w.heap.size ≤ wr.heap.size := hb.size
          clear hq2 hb
          unfold oneStr at hq
          go_wp2
          refine zac (fun w' => Below wr.heap.size wr w') (by kernel_rfl) (by kernel_rfl) ((Below.refl _ _).drew) ?_
          repeat
            try simp only [Act.put, zs1, zs3, zs2]
            apply stepsSeq.cons
            · intro w' hb1
              have Hb1' := zh hb1
              simp only [Act.put, zs1, zs3, zs2]
              go_wp2_with (fail)
              first | exact ⟨rfl, Hb1'.out⟩ | exact ⟨rfl, Hb1'.out.trans (hb2.mono Hb1'.out.size)⟩
          try simp only [Act.put, zs1, zs3, zs2]
          refine stepsSeq.nil ?_
          intro w' hb1
          have Hb2 := zh (Hb.out.trans (hb1.mono hsz))
          clear hb1
          cases q
          · go_wp2
            go_roundw
            case rel =>
              refine ⟨k + 1, by omega, by go_num, zh (fun j hj hjk => ?_), Hb2.out⟩
              rcases Nat.lt_or_ge j k with h | h
              · exact Hno.out j hj h
              · obtain rfl : j = k := by omega
                intro e
                have := Hq.out.2 e
                cases this
            case measure => simp [intOf]; omega
          · go_wp2
            go_ret
            refine ⟨?_, Hb2.out⟩
            rw [HS.out, if_pos ((zdD _).2 ⟨k, hk2, Hq.out.1 (by first | rfl | trivial)⟩)]
            rfl
        · obtain rfl : k = 17 := by omega
          go_wp2
          go_ret
          refine ⟨?_, hb⟩
          rw [HS.out, if_neg (fun h => by obtain ⟨j, hj, e⟩ := (zdD _).1 h; exact Hno.out j hj hj e)]
          rfl
  · have h2' : ¬ (2 : Int) ≤ s.size := by omega
    have HS := zh (zkO s h0 (by omega))
    go_enter Tryz.func111, Tryz.ntmps111
    go_wp2
    go_loopw [2, 5, 33, 34, 35, 36, 37, 38, 39, 40, 41, 42, 43, 44] (fun _ t5 _ _ _ _ _ _ _ _ _ _ _ _ wr => ∃ k : Nat, k ≤ 17 ∧ t5 = .int .i64 k ∧ Hid (∀ (j : Nat) (h : j < oneStr.size), j < k → oneStr[j].toNat ≠ s[0].toNat) ∧ Below w.heap.size w wr) (fun _ t5 _ _ _ _ _ _ _ _ _ _ _ _ _ => 17 - (intOf t5).toNat)
    case atStart => exact ⟨0, by omega, rfl, zh (by intro j _ hj; omega), Below.refl _ _⟩
    case round =>
      obtain ⟨k, hk, rfl, Hno, hb⟩ := hrel
      by_cases hlt : k < 17
      · have hlt1 : (k : Int) < 17 := by omega
        have hk2 : k < oneStr.size := hlt
        obtain ⟨q, hq, hq2⟩ : ∃ q : Bool, (s[0].toNat == (oneStr[k]'hk2).toNat) = q ∧ (q = true ↔ oneStr[k].toNat = s[0].toNat) := ⟨_, rfl, by rw [beq_iff_eq]; exact eq_comm⟩
        have Hq := zh hq2
        have Hb := zh hb
        have hsz : w.heap.size ≤ wr.heap.size := hb.size
        clear hq2 hb
        unfold oneStr at hq
        go_wp2
        refine zac (fun w' => Below wr.heap.size wr w') (by kernel_rfl) (by kernel_rfl) ((Below.refl _ _).drew) ?_
        repeat
          try simp only [Act.put, zs1, zs3, zs2]
          apply stepsSeq.cons
          · intro w' hb1
            have Hb1' := zh hb1
            simp only [Act.put, zs1, zs3, zs2]
            go_wp2_with (fail)
            first | exact ⟨rfl, Hb1'.out⟩ | exact ⟨rfl, Hb1'.out.trans (hb2.mono Hb1'.out.size)⟩
        try simp only [Act.put, zs1, zs3, zs2]
        refine stepsSeq.nil ?_
        intro w' hb1
        have Hb2 := zh (Hb.out.trans (hb1.mono hsz))
        clear hb1
        cases q
        · go_wp2
          go_roundw
          case rel =>
            refine ⟨k + 1, by omega, by go_num, zh (fun j hj hjk => ?_), Hb2.out⟩
            rcases Nat.lt_or_ge j k with h | h
            · exact Hno.out j hj h
            · obtain rfl : j = k := by omega
              intro e
              have := Hq.out.2 e
              cases this
          case measure => simp [intOf]; omega
        · go_wp2
          go_ret
          refine ⟨?_, Hb2.out⟩
          rw [HS.out, if_pos ((zdD _).2 ⟨k, hk2, Hq.out.1 (by first | rfl | trivial)⟩)]
          rfl
      · obtain rfl : k = 17 := by omega
        go_wp2
        go_ret
        refine ⟨?_, hb⟩
        rw [HS.out, if_neg (fun h => by obtain ⟨j, hj, e⟩ := (zdD _).1 h; exact Hno.out j hj hj e)]
        rfl

theorem zcM:(Tryz.prog.info? 93).map (fun i=>(i.zero,i.size,i.bytes))=some (some (.agg #[.int .u8 0,.string ByteArray.empty,.int .i64 0,.int .i64 0,.int .i64 0]),5,48):=by kernel_rfl
theorem ziB (s:ByteArray) {a e:Nat} (ha:a < s.size) (hae:a≤e) (he:e≤s.size) (h1:∀ (j:Nat) (h:j < s.size),a≤j→j < e→zaf s[j]=true) (h2:∀ h:e < s.size,zaf s[e]=false) :
  (s.data.toList.drop a).takeWhile zaf=(s.data.toList.drop a).take (e - a)∧((s.data.toList.drop a).takeWhile zaf).length=e - a:=by
 have hl:(s.data.toList.drop a).length=s.size - a:=by rw [List.length_drop,zaq]
 have key:(s.data.toList.drop a).takeWhile zaf=(s.data.toList.drop a).take (e - a):=by
  refine zhn (by omega) (fun j h hj=>?_) (fun h=>?_)
  ·rw [List.getElem_drop];exact h1 (a+j) (by omega) (by omega) (by omega)
  ·rw [List.getElem_drop];have e1:a+(e - a)=e:=by omega
   have:=h2 (by omega);simp only [e1];exact this
 exact ⟨key,by rw [key,List.length_take,hl];omega⟩
theorem zgx (l:List UInt8):zag l≤l.length∧zag l≤2:=by
 match l with
 | []=>exact ⟨zr _,by decide⟩
 | [a]=>rw [zag];split <;> simp
 | a :: b :: r =>
  rw [zag];split
  ·simp
  ·split <;> simp
theorem zdB {w:World} {base:Nat} {e:TypeId} {sz:Nat} {v:Value} {n:Nat} {xs:List Value} (h:w.ownsRow base e sz v n xs) {g:Nat} (hg:∀ b,v.ownBlock=some b→b≠g) (i:Nat) (x:Value):(w.setCell ⟨g,i,none⟩ x).ownsRow base e sz v n xs:=by
 obtain ⟨h1,h2⟩:=h;refine ⟨h1,?_⟩;rcases h2 with hn | ⟨b,cap,cur,hv,hb,hh,rest⟩
 ·exact .inl hn
 ·refine .inr ⟨b,cap,cur,hv,hb,?_,rest⟩;rw [Below.heap_setCell _ _ _ _ (by show b≠g;exact hg b (by rw [hv];rfl))];exact hh

theorem zkB (s:ByteArray) (w:World) (hs:s.size≤9223372036854775807) :
  Calls Tryz.prog 70 #[.string s] w fun e w'=>LexE w' e (lexS s.data.toList)∧Below w.heap.size w w':=by
 by_cases hl:s.size≤16384
 ·have hl1:¬ (16384:Int) < s.size:=by omega
  have Hf:Hid (lexS s.data.toList=(zbr (s.size+1) (s.data.toList.drop 0) 1 1).pre []):=zh (by rw [LexR.pre_nil,List.drop_zero,lexS,zaq,if_neg (by omega)]);generalize lexS s.data.toList=final at Hf ⊢;go_enter Tryz.func70,Tryz.ntmps70
  go_wp2;go_loopw [2,3,4,5,6,7,8,9,10,11,12,13,14,18,19,20,21,22,23,24,25,26,27,28,29,30,31,32,33,34,35,36,37,38,39,40,41,42,43,44,45,46,47,48,49,50,51,52,53,54,55,56,57,58,59,60,61,62,63,64,65,66,67,68,69,70,71,72,73,74,75,76,77,78,79,80,81,82,83,84,85,86,87,88,89,90,91,92,93,94,95,96,97,98,99,100,101,102,103,104,105,106,107,108,109,110,111,112,113,114,115,116,117,118,119,120,121,122,123,124,125,126,127,128,129,130,131,132,133,134,135,136,137,138,139,140,141,142,143,144,145,146,147,148,149,150,151,152,153,154,155,156,157,158,159,160,161,162] (fun _ _ _ _ t6 t7 t8 t9 _ _ _ _ _ _ _ _ _ _ _ _ _ _ _ _ _ _ _ _ _ _ _ _ _ _ _ _ _ _ _ _ _ _ _ _ _ _ _ _ _ _ _ _ _ _ _ _ _ _ _ _ _ _ _ _ _ _ _ _ _ _ _ _ _ _ _ _ _ _ _ _ _ _ _ _ _ _ _ _ _ _ _ _ _ _ _ _ _ _ _ _ _ _ _ _ _ _ _ _ _ _ _ _ _ _ _ _ _ _ _ _ _ _ _ _ _ _ _ _ _ _ _ _ _ _ _ _ _ _ _ _ _ _ _ _ _ _ _ _ _ _ _ _ _ _ _ _ _ _ wr=>∃ (at' line first f:Nat) (ts:List Tok),at'≤s.size∧first≤at'∧line≤at'+1∧s.size < f+at'∧ts.length≤at'∧t9=.int .i64 at'∧t7=.int .i64 line∧t8=.int .i64 first∧wr.ownsRow w.heap.size 93 5 t6 ts.length (ts.flatMap Tok.cells)∧Hid (final=(zbr f (s.data.toList.drop at') (line:Int) ((at':Int) - first+1)).pre ts)∧Below w.heap.size w wr) (fun _ _ _ _ _ _ _ t9 _ _ _ _ _ _ _ _ _ _ _ _ _ _ _ _ _ _ _ _ _ _ _ _ _ _ _ _ _ _ _ _ _ _ _ _ _ _ _ _ _ _ _ _ _ _ _ _ _ _ _ _ _ _ _ _ _ _ _ _ _ _ _ _ _ _ _ _ _ _ _ _ _ _ _ _ _ _ _ _ _ _ _ _ _ _ _ _ _ _ _ _ _ _ _ _ _ _ _ _ _ _ _ _ _ _ _ _ _ _ _ _ _ _ _ _ _ _ _ _ _ _ _ _ _ _ _ _ _ _ _ _ _ _ _ _ _ _ _ _ _ _ _ _ _ _ _ _ _ _ _=>s.size+1 - (intOf t9).toNat)
  case atStart=>exact ⟨0,1,0,s.size+1,[],by omega,by omega,by omega,by omega,by simp,rfl,rfl,rfl,World.ownsRow_nil _ _ _ _,zh Hf.out,Below.refl _ _⟩
  case round =>
   obtain ⟨at',line,first,f,ts,hat,hfi,hli,hf,hts,rfl,rfl,rfl,hown,Hfin,hb⟩:=hrel;obtain ⟨wo,rfl⟩:∃ wo:World,wo=wr:=⟨_,rfl⟩;obtain ⟨oa,ocap,rfl,_,_⟩:=(Sl.of_own hown).form;have Hown:=zh hown;have Hb:=zh hb;obtain ⟨f',rfl⟩:∃ f',f=f'+1:=⟨f - 1,by omega⟩;have HT:Hid (∃ T,zam (s.data.toList.drop at') false (line:Int) ((at':Int) - first+1)=T∧final=(zaK (zbr f') T.1 T.2.1 T.2.2).pre ts):=zh ⟨_,rfl,Hfin.out⟩;obtain ⟨T,hT1,hT2⟩:=HT.out;have HT1:=zh hT1;have HT2:=zh hT2;clear hown hb hT1 hT2 HT Hfin;go_wp2_with fail
   go_loopw [7,8,9,18,19,20,21,22,23,24,25,26,27,28,29,30,31,32,33,34,35,36,37,38,39,40,41,42,43,44,45,46,47,48,49,50,51,52,53,54,55,56,57,58,59,60,61,62,63,64,65,66,67,68,69,70,71] (fun t7 t8 t9 _ _ _ _ _ _ _ _ _ _ _ _ _ _ _ _ _ _ _ _ _ _ _ _ _ _ _ _ _ _ _ _ _ _ _ _ _ _ _ _ _ _ _ _ _ _ _ _ _ _ _ _ _ _ wr=>∃ at2 line2 first2:Nat,at'≤at2∧at2≤s.size∧first2≤at2∧line2≤at2+1∧t9=.int .i64 at2∧t7=.int .i64 line2∧t8=.int .i64 first2∧Hid (zam (s.data.toList.drop at2) false (line2:Int) ((at2:Int) - first2+1)=T)∧wr=wo) (fun _ _ t9 _ _ _ _ _ _ _ _ _ _ _ _ _ _ _ _ _ _ _ _ _ _ _ _ _ _ _ _ _ _ _ _ _ _ _ _ _ _ _ _ _ _ _ _ _ _ _ _ _ _ _ _ _ _ _=>s.size+1 - (intOf t9).toNat)
   case atStart=>exact ⟨at',line,first,by omega,hat,hfi,hli,rfl,rfl,rfl,zh HT1.out,rfl⟩
   case round =>
    obtain ⟨at2,line2,first2,ha2,hat2,hfi2,hli2,rfl,rfl,rfl,Hsk,rfl⟩:=hrel;by_cases hlt:at2 < s.size
    ·have hlt1:(at2:Int) < s.size:=by omega
     have Hdg:=zh (za2 s hlt);have hb255:s[at2].toNat≤255:=by have:=s[at2].toNat_lt;omega
     obtain ⟨p32,p9,p10,p35,q32,q9,q10,q35,hp32,hp9,hp10,hp35⟩:∃ p32 p9 p10 p35:Bool,((s[at2].toNat:Int) == 32)=p32∧((s[at2].toNat:Int) == 9)=p9∧((s[at2].toNat:Int) == 10)=p10∧((s[at2].toNat:Int) == 35)=p35∧(p32=true ↔ s[at2].toNat=32)∧(p9=true ↔ s[at2].toNat=9)∧(p10=true ↔ s[at2].toNat=10)∧(p35=true ↔ s[at2].toNat=35):=by
      refine ⟨_,_,_,_,rfl,rfl,rfl,rfl,?_,?_,?_,?_⟩ <;> rw [beq_iff_eq] <;> omega
     generalize hx:s[at2]=x at *
     have Hx:=zh hx;have Hp:=zh (And.intro hp32 (And.intro hp9 (And.intro hp10 hp35)));clear hp32 hp9 hp10 hp35;cases p35
     ·cases p10
      ·cases p32 <;> cases p9
       ·have hst:zam (s.data.toList.drop at2) false (line2:Int) ((at2:Int) - first2+1)=(s.data.toList.drop at2,(line2:Int),(at2:Int) - first2+1):=by
         rw [Hdg.out];exact zcu (fun h=>by have:=Hp.out.2.2.1.2 h;cases this) (fun h=>by have:=Hp.out.1.2 h;cases this) (fun h=>by have:=Hp.out.2.1.2 h;cases this) (fun h=>by have:=Hp.out.2.2.2.2 h;cases this)
        have HTe:Hid (T=(s.data.toList.drop at2,(line2:Int),(at2:Int) - first2+1)):=zh (Hsk.out.symm.trans hst);clear hst Hsk Hp;have hne:((at2:Int) == (s.size:Int))=false:=by rw [beq_eq_false_iff_ne];omega
        have Hfi:Hid (final=(zaK (zbr f') (x :: s.data.toList.drop (at2+1)) (line2:Int) ((at2:Int) - first2+1)).pre ts):=zh (by
         have h:=HT2.out;rw [HTe.out] at h;simp only at h;rw [Hdg.out] at h
         exact h)
        clear HTe;obtain ⟨wq,rfl⟩:∃ wq:World,wq=wr:=⟨_,rfl⟩;go_wp2_with fail
        go_loopw [11,87,88,89,90,91,92,93,94,95,96,97,98,99,100,101,102,103,104] (fun t11 _ _ _ _ _ _ _ _ _ _ _ _ _ _ _ _ _ _ wr=>∃ e:Nat,at2≤e∧e≤s.size∧t11=.int .i64 e∧Hid (∀ (j:Nat) (h:j < s.size),at2≤j→j < e→zaf s[j]=true)∧wr=wq.alloc (.cells #[.int .u8 4,.string ByteArray.empty,.int .i64 0,.int .i64 (line2:Int),.int .i64 ((at2:Int) - first2+1)] 93)) (fun t11 _ _ _ _ _ _ _ _ _ _ _ _ _ _ _ _ _ _ _=>s.size - (intOf t11).toNat)
        case atStart=>exact ⟨at2,by omega,by omega,rfl,zh (by intro j _ h1 h2;omega),by first | rfl | trivial⟩
        case round =>
         obtain ⟨e,he,hes,rfl,He,rfl⟩:=hrel;by_cases hle:e < s.size
         ·have hle1:(e:Int) < s.size:=by omega
          have HL:=zh (zc1 (s[e].toNat:Int) (wq.alloc (.cells #[.int .u8 4,.string ByteArray.empty,.int .i64 0,.int .i64 (line2:Int),.int .i64 ((at2:Int) - first2+1)] 93)));have HD:=zh (zcP (s[e].toNat:Int) (wq.alloc (.cells #[.int .u8 4,.string ByteArray.empty,.int .i64 0,.int .i64 (line2:Int),.int .i64 ((at2:Int) - first2+1)] 93)));obtain ⟨pl,pd,hpl,hpd,hpp⟩:∃ pl pd:Bool,zaV (s[e].toNat:Int)=pl∧za9 (s[e].toNat:Int)=pd∧zaf s[e]=(pl || pd):=⟨_,_,rfl,rfl,rfl⟩;rw [hpl] at HL;rw [hpd] at HD;have Hpp:=zh hpp;have hse:s[e].toNat≤255:=by have:=s[e].toNat_lt;omega
          clear hpl hpd hpp;cases pl
          ·cases pd
           ·go_wp2_with fail
            go_at_call 80;refine HL.out.mono ?_;rintro e1 w2 ⟨rfl,rfl⟩;go_wp2_with fail
            go_at_call 81;refine HD.out.mono ?_;rintro e1 w2 ⟨rfl,rfl⟩;go_wp2_with fail
            have HWL:=zh (ziB s hlt he hes He.out (fun _=>Hpp.out));rw [Hdg.out] at HWL;have HLx:=zh (zc1 (x.toNat:Int) (wq.alloc (.cells #[.int .u8 4,.string ByteArray.empty,.int .i64 0,.int .i64 (line2:Int),.int .i64 ((at2:Int) - first2+1)] 93)));have HDx:=zh (zcP (x.toNat:Int) (wq.alloc (.cells #[.int .u8 4,.string ByteArray.empty,.int .i64 0,.int .i64 (line2:Int),.int .i64 ((at2:Int) - first2+1)] 93)));obtain ⟨px,py,hpx,hpy,hlx,hdx⟩:∃ px py:Bool,zaV (x.toNat:Int)=px∧za9 (x.toNat:Int)=py∧zaH x=px∧zaG x=py:=⟨_,_,rfl,rfl,rfl,rfl⟩;rw [hpx] at HLx;rw [hpy] at HDx;have Hlx:=zh hlx;have Hdx:=zh hdx;clear hpx hpy hlx hdx;go_at_call 80;refine HLx.out.mono ?_;rintro e1 w2 ⟨rfl,rfl⟩
            cases px with
            | true =>
             obtain ⟨q,hq,hq2⟩:∃ q:Bool,decide ((e:Int) - at2 > 24)=q∧(q=true ↔ 24 < e - at2):=⟨_,rfl,by rw [decide_eq_true_eq];omega⟩;have Hq:=zh hq2;clear hq2;cases q
             ·have Hf2:Hid (final=(zbr f' (s.data.toList.drop e) (line2:Int) ((e:Int) - first2+1)).pre (ts++[⟨1,(s.data.toList.drop at2).take (e - at2),0,(line2:Int),(at2:Int) - first2+1⟩])):=zh (by
               rw [Hfi.out,zaK,if_pos Hlx.out,HWL.out.2,if_neg (fun h=>by have:=Hq.out.2 h;cases this),LexR.pre_cons,HWL.out.1,Hdg.out];congr 2
               ·rw [← Hdg.out,List.drop_drop];congr 1;omega
               ·omega)
              have hown1:=Hown.out.alloc (.cells #[.int .u8 1,.string (s.extract at2 e),.int .i64 0,.int .i64 (line2:Int),.int .i64 ((at2:Int) - first2+1)] 93);have hb1:=Hb.out.alloc Hb.out.size (.cells #[.int .u8 1,.string (s.extract at2 e),.int .i64 0,.int .i64 (line2:Int),.int .i64 ((at2:Int) - first2+1)] 93);have Hbs:=zh (zbk s at2 e)
              have he1:at2 < e:=by
               refine Nat.lt_of_le_of_ne he (fun h=>?_);have h2:=HWL.out.2;rw [List.takeWhile_cons,if_pos (by rw [zaf,Hlx.out];rfl)] at h2;simp at h2;omega
              have hi1:(at2:Int)≤e:=by omega
              have hi2:(e:Int)≤s.size:=by omega
              go_wp2_with (at_builtin;refine zbm rfl (.tmp 158) (.tmp 160) 90 rfl hown1 zcM Tryz.underlying90 rfl (by decide) rfl 1 1 (by show Value.slice (some ⟨wq.heap.size+1,0,none⟩) 1 1=_;simp) rfl rfl (by unfold maxLen;omega) (by omega) hb1.size ?_;intro v' w3 hown3 hg3 hb4)
              go_roundw
              case rel =>
               refine ⟨e,line2,first2,f',ts++[⟨1,(s.data.toList.drop at2).take (e - at2),0,(line2:Int),(at2:Int) - first2+1⟩],by omega,by omega,by omega,by omega,by simp;omega,rfl,rfl,rfl,?_,zh Hf2.out,hb1.trans hb4⟩;rw [Hbs.out] at hown3;rw [List.length_append,List.flatMap_append];exact hown3
              case measure=>simp [intOf];omega
             ·have Hf2:Hid (final=.err (line2:Int) ((at2:Int) - first2+1) 111):=zh (by
               rw [Hfi.out,zaK,if_pos Hlx.out,HWL.out.2,if_pos (Hq.out.1 rfl)]
               rfl)
              have hB:=OwnV.new wq 93 [.int .u8 1,.string ByteArray.empty,.int .i64 0,.int .i64 (line2:Int),.int .i64 ((at2:Int) - first2+1)];have hb1:=Hb.out.alloc Hb.out.size (.cells #[.int .u8 1,.string ByteArray.empty,.int .i64 0,.int .i64 (line2:Int),.int .i64 ((at2:Int) - first2+1)] 93);go_wp2_with fail
              generalize wq.alloc (.cells #[.int .u8 1,.string ByteArray.empty,.int .i64 0,.int .i64 (line2:Int),.int .i64 ((at2:Int) - first2+1)] 93)=w8 at *
              have c3:=hB.cell (i:=3) rfl;have c4:=hB.cell (i:=4) rfl;have Hb8:=zh hb1;clear hB hb1;refine zac (fun w'=>Below w8.heap.size w8 w') (by kernel_rfl) (by kernel_rfl) ((Below.refl _ _).drew) ?_
              repeat
               try simp only [Act.put,zs1,zs3,zs2]
               apply stepsSeq.cons
               ·intro w' hb1;have Hb1':=zh hb1;have c3':=Below.keep hb1 c3;have c4':=Below.keep hb1 c4;simp only [Act.put,zs1,zs3,zs2];go_wp2_with (fail)
                first | exact ⟨rfl,Hb1'.out⟩ | exact ⟨rfl,Hb1'.out.trans (hb2.mono Hb1'.out.size)⟩
              try simp only [Act.put,zs1,zs3,zs2]
              refine stepsSeq.nil ?_;intro w' hb1;clear c3 c4;go_wp2
              exact bodyPost_ret (v:=.tuple #[.slice none 0 0,.int .i64 (line2:Int),.int .i64 ((at2:Int) - first2+1),.int .i64 111]) (by simp [results,Tryz.results70,go_sem]) rfl ⟨by rw [Hf2.out];rfl,Hb8.out.trans (hb1.mono Hb8.out.size)⟩
            | false =>
             go_wp2_with fail
             go_at_call 81;refine HDx.out.mono ?_;rintro e1 w2 ⟨rfl,rfl⟩
             cases py with
             | true =>
              have he1:at2 < e:=by
               refine Nat.lt_of_le_of_ne he (fun h=>?_);have h2:=HWL.out.2;rw [List.takeWhile_cons,if_pos (by rw [zaf,Hdx.out];simp)] at h2;simp at h2;omega
              have hi1:(at2:Int)≤e:=by omega
              have hi2:(e:Int)≤s.size:=by omega
              have Hbs:=zh (zbk s at2 e);have Hlist:Hid ((s.extract at2 e).data.toList=(x :: s.data.toList.drop (at2+1)).takeWhile zaf):=zh (by rw [zbX,HWL.out.1,Hdg.out])
              have HVl:=zh (zg2 (s.extract at2 e) (wq.alloc (.cells #[.int .u8 4,.string ByteArray.empty,.int .i64 0,.int .i64 (line2:Int),.int .i64 ((at2:Int) - first2+1)] 93)) (by
               have h:=zaq (s.extract at2 e);rw [zbX,List.length_take,List.length_drop,zaq] at h
               omega))
              rw [Hlist.out] at HVl
              cases hvr:zaS ((x :: s.data.toList.drop (at2+1)).takeWhile zaf) with
              | none =>
               have Hf2:Hid (final=.err (line2:Int) ((at2:Int) - first2+1) 112):=zh (by
                rw [Hfi.out,zaK,if_neg (by rw [Hlx.out];decide),if_pos Hdx.out,hvr]
                rfl)
               rw [hvr] at HVl;clear hvr;go_wp2_with fail
               go_at_call 110;refine HVl.out.mono ?_;rintro e1 w2 ⟨rfl,rfl⟩;unfold numE;have hB:=OwnV.new wq 93 [.int .u8 4,.string ByteArray.empty,.int .i64 0,.int .i64 (line2:Int),.int .i64 ((at2:Int) - first2+1)];have hb1:=Hb.out.alloc Hb.out.size (.cells #[.int .u8 4,.string ByteArray.empty,.int .i64 0,.int .i64 (line2:Int),.int .i64 ((at2:Int) - first2+1)] 93);go_wp2_with fail
               generalize wq.alloc (.cells #[.int .u8 4,.string ByteArray.empty,.int .i64 0,.int .i64 (line2:Int),.int .i64 ((at2:Int) - first2+1)] 93)=w8 at *
               have c3:=hB.cell (i:=3) rfl;have c4:=hB.cell (i:=4) rfl;have Hb8:=zh hb1;clear hB hb1;refine zac (fun w'=>Below w8.heap.size w8 w') (by kernel_rfl) (by kernel_rfl) ((Below.refl _ _).drew) ?_
               repeat
                try simp only [Act.put,zs1,zs3,zs2]
                apply stepsSeq.cons
                ·intro w' hb1;have Hb1':=zh hb1;have c3':=Below.keep hb1 c3;have c4':=Below.keep hb1 c4;simp only [Act.put,zs1,zs3,zs2];go_wp2_with (fail)
                 first | exact ⟨rfl,Hb1'.out⟩ | exact ⟨rfl,Hb1'.out.trans (hb2.mono Hb1'.out.size)⟩
               try simp only [Act.put,zs1,zs3,zs2]
               refine stepsSeq.nil ?_;intro w' hb1;clear c3 c4;go_wp2
               exact bodyPost_ret (v:=.tuple #[.slice none 0 0,.int .i64 (line2:Int),.int .i64 ((at2:Int) - first2+1),.int .i64 112]) (by simp [results,Tryz.results70,go_sem]) rfl ⟨by rw [Hf2.out];rfl,Hb8.out.trans (hb1.mono Hb8.out.size)⟩
              | some n =>
               have Hf2:Hid (final=(zbr f' (s.data.toList.drop e) (line2:Int) ((e:Int) - first2+1)).pre (ts++[⟨2,(s.data.toList.drop at2).take (e - at2),n,(line2:Int),(at2:Int) - first2+1⟩])):=zh (by
                rw [Hfi.out,zaK,if_neg (by rw [Hlx.out];decide),if_pos Hdx.out,hvr];simp only;rw [HWL.out.2,LexR.pre_cons,HWL.out.1,Hdg.out];congr 2
                ·rw [← Hdg.out,List.drop_drop];congr 1;omega
                ·omega)
               rw [hvr] at HVl;clear hvr;have hown1:=Hown.out.alloc (.cells #[.int .u8 2,.string (s.extract at2 e),.int .i64 n,.int .i64 (line2:Int),.int .i64 ((at2:Int) - first2+1)] 93);have hb1:=Hb.out.alloc Hb.out.size (.cells #[.int .u8 2,.string (s.extract at2 e),.int .i64 n,.int .i64 (line2:Int),.int .i64 ((at2:Int) - first2+1)] 93);go_wp2_with fail
               go_at_call 110;refine HVl.out.mono ?_;rintro e1 w2 ⟨rfl,rfl⟩;unfold numE;go_wp2_with (at_builtin;refine zbm rfl (.tmp 158) (.tmp 160) 90 rfl hown1 zcM Tryz.underlying90 rfl (by decide) rfl 1 1 (by show Value.slice (some ⟨wq.heap.size+1,0,none⟩) 1 1=_;simp) rfl rfl (by unfold maxLen;omega) (by omega) hb1.size ?_;intro v' w3 hown3 hg3 hb4)
               go_roundw
               case rel =>
                refine ⟨e,line2,first2,f',ts++[⟨2,(s.data.toList.drop at2).take (e - at2),n,(line2:Int),(at2:Int) - first2+1⟩],by omega,by omega,by omega,by omega,by simp;omega,rfl,rfl,rfl,?_,zh Hf2.out,hb1.trans hb4⟩;rw [Hbs.out] at hown3;rw [List.length_append,List.flatMap_append];exact hown3
               case measure=>simp [intOf];omega
             | false =>
              have Hxn:Hid ((s.extract at2 s.size).data.toList=x :: s.data.toList.drop (at2+1)):=zh (by rw [zbX,← Hdg.out,List.take_of_length_le (by rw [List.length_drop,zaq];omega)])
              have hxs:(s.extract at2 s.size).size=s.size - at2:=by
               have h:=zaq (s.extract at2 s.size);rw [zbX,List.length_take,List.length_drop,zaq] at h;omega
              have HSg:=zh (ziO (s.extract at2 s.size) (wq.alloc (.cells #[.int .u8 4,.string ByteArray.empty,.int .i64 0,.int .i64 (line2:Int),.int .i64 ((at2:Int) - first2+1)] 93)) (by omega) (by omega));rw [Hxn.out] at HSg;have hi2:(at2:Int)≤s.size:=by omega
              clear hxs;have hsl:=zgx (x :: s.data.toList.drop (at2+1))
              have hsl1:at2+zag (x :: s.data.toList.drop (at2+1))≤s.size:=by
               have h:=hsl.1;rw [← Hdg.out,List.length_drop,zaq] at h;rw [← Hdg.out];omega
              have hsl2:=hsl.2
              have Hfs:Hid (zaK (zbr f') (x :: s.data.toList.drop (at2+1)) (line2:Int) ((at2:Int) - first2+1)=if zag (x :: s.data.toList.drop (at2+1))=0 then .err (line2:Int) ((at2:Int) - first2+1) 110 else (zbr f' ((x :: s.data.toList.drop (at2+1)).drop (zag (x :: s.data.toList.drop (at2+1)))) (line2:Int) ((at2:Int) - first2+1+zag (x :: s.data.toList.drop (at2+1)))).cons ⟨3,(x :: s.data.toList.drop (at2+1)).take (zag (x :: s.data.toList.drop (at2+1))),0,(line2:Int),(at2:Int) - first2+1⟩):=zh (by
               rw [zaK,if_neg (by rw [Hlx.out];decide),if_neg (by rw [Hdx.out];decide)])
              generalize zag (x :: s.data.toList.drop (at2+1))=sl at *
              clear hsl;go_wp2_with fail
              go_at_call 111;refine HSg.out.mono ?_;rintro e1 w5 ⟨rfl,hb5⟩;have hgw:w.heap.size≤wq.heap.size:=Hb.out.size;have hB:=(OwnV.new wq 93 [.int .u8 4,.string ByteArray.empty,.int .i64 0,.int .i64 (line2:Int),.int .i64 ((at2:Int) - first2+1)]).below hb5 (zr _);have hown5:=zbu (Hown.out.alloc (.cells #[.int .u8 4,.string ByteArray.empty,.int .i64 0,.int .i64 (line2:Int),.int .i64 ((at2:Int) - first2+1)] 93)) hb5 (zr _);have hb8:=(Hb.out.alloc Hb.out.size (.cells #[.int .u8 4,.string ByteArray.empty,.int .i64 0,.int .i64 (line2:Int),.int .i64 ((at2:Int) - first2+1)] 93)).trans (hb5.mono (by simp;omega));have hbn:∀ b,(Value.slice oa ts.length ocap).ownBlock=some b→b≠wq.heap.size:=fun b hb'=>by have:=(Hown.out.lt b hb').2;omega
              have c0:=hB.cell (i:=0) rfl;have c1:=hB.cell (i:=1) rfl;have c2:=hB.cell (i:=2) rfl;have c3:=hB.cell (i:=3) rfl;have c4:=hB.cell (i:=4) rfl;have f0:=hB.free 0;have f1:=hB.free 1;have Hb8:=zh hb8;have Hown5:=zh hown5;have Hbn:=zh hbn;have hglt:=hB.lt;clear hb5 hB hown5 hb8 hbn;rcases Nat.eq_zero_or_pos sl with h0 | h0
              ·have Hf2:Hid (final=.err (line2:Int) ((at2:Int) - first2+1) 110):=zh (by
                rw [Hfi.out,Hfs.out,if_pos h0]
                rfl)
               have hz:((sl:Int) == 0)=true:=by simp [h0]
               clear h0;go_wp2_with fail
               refine zac (fun w'=>Below w5.heap.size w5 w') (by kernel_rfl) (by kernel_rfl) ((Below.refl _ _).drew) ?_
               repeat
                try simp only [Act.put,zs1,zs3,zs2]
                apply stepsSeq.cons
                ·intro w' hb1;have Hb1':=zh hb1;have c3':=Below.keep hb1 c3;have c4':=Below.keep hb1 c4;simp only [Act.put,zs1,zs3,zs2];go_wp2_with (fail)
                 first | exact ⟨rfl,Hb1'.out⟩ | exact ⟨rfl,Hb1'.out.trans (hb2.mono Hb1'.out.size)⟩
               try simp only [Act.put,zs1,zs3,zs2]
               refine stepsSeq.nil ?_;intro w' hb1;clear c0 c1 c2 c3 c4 f0 f1;go_wp2;exact bodyPost_ret (v:=.tuple #[.slice none 0 0,.int .i64 (line2:Int),.int .i64 ((at2:Int) - first2+1),.int .i64 110]) (by simp [results,Tryz.results70,go_sem]) rfl ⟨by rw [Hf2.out];rfl,Hb8.out.trans (hb1.mono Hb8.out.size)⟩
              ·have Hf2:Hid (final=(zbr f' (s.data.toList.drop (at2+sl)) (line2:Int) (((at2+sl:Nat):Int) - first2+1)).pre (ts++[⟨3,(s.data.toList.drop at2).take (at2+sl - at2),0,(line2:Int),(at2:Int) - first2+1⟩])):=zh (by
                rw [Hfi.out,Hfs.out,if_neg (by omega),LexR.pre_cons,Hdg.out,Nat.add_sub_cancel_left];congr 2
                ·rw [← Hdg.out,List.drop_drop]
                ·omega)
               have hz:((sl:Int) == 0)=false:=by rw [beq_eq_false_iff_ne];omega
               have he2:(at2:Int)+sl≤s.size:=by omega
               have he3:(at2:Int)≤(at2:Int)+sl:=by omega
               have he4:((at2:Int)+(sl:Int)).toNat=at2+sl:=by omega
               have he5:(0:Int)≤(at2:Int)+sl:=by omega
               have hown1:(((w5.setCell ⟨wq.heap.size,0,none⟩ (.int .u8 3)).setCell ⟨wq.heap.size,1,none⟩ (.string (s.extract at2 (at2+sl))))).ownsRow w.heap.size 93 5 (.slice oa ts.length ocap) ts.length (ts.flatMap Tok.cells):=zdB (zdB Hown5.out Hbn.out 0 _) Hbn.out 1 _;have hb1:Below w.heap.size w ((w5.setCell ⟨wq.heap.size,0,none⟩ (.int .u8 3)).setCell ⟨wq.heap.size,1,none⟩ (.string (s.extract at2 (at2+sl)))):=(Hb8.out.setCell (p:=Addr.mk wq.heap.size 0 none) hgw _).setCell (p:=Addr.mk wq.heap.size 1 none) hgw _;have Hbs:=zh (zbk s at2 (at2+sl));have hws:((w5.setCell ⟨wq.heap.size,0,none⟩ (.int .u8 3)).setCell ⟨wq.heap.size,1,none⟩ (.string (s.extract at2 (at2+sl)))).heap.size=w5.heap.size:=by simp
               go_wp2_with (at_builtin;refine zbm rfl (.tmp 158) (.tmp 160) 90 rfl hown1 zcM Tryz.underlying90 rfl (by decide) rfl 1 1 (by show Value.slice (some ⟨w5.heap.size,0,none⟩) 1 1=_;simp) rfl rfl (by unfold maxLen;omega) (by omega) hb1.size ?_;intro v' w3 hown3 hg3 hb4)
               go_roundw
               case rel =>
                refine ⟨at2+sl,line2,first2,f',ts++[⟨3,(s.data.toList.drop at2).take (at2+sl - at2),0,(line2:Int),(at2:Int) - first2+1⟩],by omega,by omega,by omega,by omega,by simp;omega,by go_num,rfl,rfl,?_,zh Hf2.out,hb1.trans hb4⟩;rw [Hbs.out] at hown3;rw [List.length_append,List.flatMap_append];exact hown3
               case measure=>simp [intOf];omega
           ·go_wp2_with (first | (go_at_call 80;refine HL.out.mono ?_;rintro e1 w2 ⟨rfl,rfl⟩) | (go_at_call 81;refine HD.out.mono ?_;rintro e1 w2 ⟨rfl,rfl⟩))
            go_roundw
            case rel =>
             refine ⟨e+1,by omega,by omega,by go_num,zh (fun j hj h1 h2=>?_),by first | rfl | trivial⟩;rcases Nat.lt_or_ge j e with h | h
             ·exact He.out j hj h1 h
             ·obtain rfl:j=e:=by omega
              exact Hpp.out
            case measure=>simp [intOf];omega
          ·go_wp2_with (first | (go_at_call 80;refine HL.out.mono ?_;rintro e1 w2 ⟨rfl,rfl⟩) | (go_at_call 81;refine HD.out.mono ?_;rintro e1 w2 ⟨rfl,rfl⟩))
           go_roundw
           case rel =>
            refine ⟨e+1,by omega,by omega,by go_num,zh (fun j hj h1 h2=>?_),by first | rfl | trivial⟩;rcases Nat.lt_or_ge j e with h | h
            ·exact He.out j hj h1 h
            ·obtain rfl:j=e:=by omega
             rw [Hpp.out];rfl
           case measure=>simp [intOf];omega
         ·have hle1:¬ (e:Int) < s.size:=by omega
          go_wp2_with fail
          have HWL:=zh (ziB s hlt he hes He.out (fun h=>absurd h (by omega)));rw [Hdg.out] at HWL;have HLx:=zh (zc1 (x.toNat:Int) (wq.alloc (.cells #[.int .u8 4,.string ByteArray.empty,.int .i64 0,.int .i64 (line2:Int),.int .i64 ((at2:Int) - first2+1)] 93)));have HDx:=zh (zcP (x.toNat:Int) (wq.alloc (.cells #[.int .u8 4,.string ByteArray.empty,.int .i64 0,.int .i64 (line2:Int),.int .i64 ((at2:Int) - first2+1)] 93)));obtain ⟨px,py,hpx,hpy,hlx,hdx⟩:∃ px py:Bool,zaV (x.toNat:Int)=px∧za9 (x.toNat:Int)=py∧zaH x=px∧zaG x=py:=⟨_,_,rfl,rfl,rfl,rfl⟩;rw [hpx] at HLx;rw [hpy] at HDx;have Hlx:=zh hlx;have Hdx:=zh hdx;clear hpx hpy hlx hdx;go_at_call 80;refine HLx.out.mono ?_;rintro e1 w2 ⟨rfl,rfl⟩
          cases px with
          | true =>
           obtain ⟨q,hq,hq2⟩:∃ q:Bool,decide ((e:Int) - at2 > 24)=q∧(q=true ↔ 24 < e - at2):=⟨_,rfl,by rw [decide_eq_true_eq];omega⟩;have Hq:=zh hq2;clear hq2;cases q
           ·have Hf2:Hid (final=(zbr f' (s.data.toList.drop e) (line2:Int) ((e:Int) - first2+1)).pre (ts++[⟨1,(s.data.toList.drop at2).take (e - at2),0,(line2:Int),(at2:Int) - first2+1⟩])):=zh (by
             rw [Hfi.out,zaK,if_pos Hlx.out,HWL.out.2,if_neg (fun h=>by have:=Hq.out.2 h;cases this),LexR.pre_cons,HWL.out.1,Hdg.out];congr 2
             ·rw [← Hdg.out,List.drop_drop];congr 1;omega
             ·omega)
            have hown1:=Hown.out.alloc (.cells #[.int .u8 1,.string (s.extract at2 e),.int .i64 0,.int .i64 (line2:Int),.int .i64 ((at2:Int) - first2+1)] 93);have hb1:=Hb.out.alloc Hb.out.size (.cells #[.int .u8 1,.string (s.extract at2 e),.int .i64 0,.int .i64 (line2:Int),.int .i64 ((at2:Int) - first2+1)] 93);have Hbs:=zh (zbk s at2 e)
            have he1:at2 < e:=by
             refine Nat.lt_of_le_of_ne he (fun h=>?_);have h2:=HWL.out.2;rw [List.takeWhile_cons,if_pos (by rw [zaf,Hlx.out];rfl)] at h2;simp at h2;omega
            have hi1:(at2:Int)≤e:=by omega
            have hi2:(e:Int)≤s.size:=by omega
            go_wp2_with (at_builtin;refine zbm rfl (.tmp 158) (.tmp 160) 90 rfl hown1 zcM Tryz.underlying90 rfl (by decide) rfl 1 1 (by show Value.slice (some ⟨wq.heap.size+1,0,none⟩) 1 1=_;simp) rfl rfl (by unfold maxLen;omega) (by omega) hb1.size ?_;intro v' w3 hown3 hg3 hb4)
            go_roundw
            case rel =>
             refine ⟨e,line2,first2,f',ts++[⟨1,(s.data.toList.drop at2).take (e - at2),0,(line2:Int),(at2:Int) - first2+1⟩],by omega,by omega,by omega,by omega,by simp;omega,rfl,rfl,rfl,?_,zh Hf2.out,hb1.trans hb4⟩;rw [Hbs.out] at hown3;rw [List.length_append,List.flatMap_append];exact hown3
            case measure=>simp [intOf];omega
           ·have Hf2:Hid (final=.err (line2:Int) ((at2:Int) - first2+1) 111):=zh (by
             rw [Hfi.out,zaK,if_pos Hlx.out,HWL.out.2,if_pos (Hq.out.1 rfl)]
             rfl)
            have hB:=OwnV.new wq 93 [.int .u8 1,.string ByteArray.empty,.int .i64 0,.int .i64 (line2:Int),.int .i64 ((at2:Int) - first2+1)];have hb1:=Hb.out.alloc Hb.out.size (.cells #[.int .u8 1,.string ByteArray.empty,.int .i64 0,.int .i64 (line2:Int),.int .i64 ((at2:Int) - first2+1)] 93);go_wp2_with fail
            generalize wq.alloc (.cells #[.int .u8 1,.string ByteArray.empty,.int .i64 0,.int .i64 (line2:Int),.int .i64 ((at2:Int) - first2+1)] 93)=w8 at *
            have c3:=hB.cell (i:=3) rfl;have c4:=hB.cell (i:=4) rfl;have Hb8:=zh hb1;clear hB hb1;refine zac (fun w'=>Below w8.heap.size w8 w') (by kernel_rfl) (by kernel_rfl) ((Below.refl _ _).drew) ?_
            repeat
             try simp only [Act.put,zs1,zs3,zs2]
             apply stepsSeq.cons
             ·intro w' hb1;have Hb1':=zh hb1;have c3':=Below.keep hb1 c3;have c4':=Below.keep hb1 c4;simp only [Act.put,zs1,zs3,zs2];go_wp2_with (fail)
              first | exact ⟨rfl,Hb1'.out⟩ | exact ⟨rfl,Hb1'.out.trans (hb2.mono Hb1'.out.size)⟩
            try simp only [Act.put,zs1,zs3,zs2]
            refine stepsSeq.nil ?_;intro w' hb1;clear c3 c4;go_wp2
            exact bodyPost_ret (v:=.tuple #[.slice none 0 0,.int .i64 (line2:Int),.int .i64 ((at2:Int) - first2+1),.int .i64 111]) (by simp [results,Tryz.results70,go_sem]) rfl ⟨by rw [Hf2.out];rfl,Hb8.out.trans (hb1.mono Hb8.out.size)⟩
          | false =>
           go_wp2_with fail
           go_at_call 81;refine HDx.out.mono ?_;rintro e1 w2 ⟨rfl,rfl⟩
           cases py with
           | true =>
            have he1:at2 < e:=by
             refine Nat.lt_of_le_of_ne he (fun h=>?_);have h2:=HWL.out.2;rw [List.takeWhile_cons,if_pos (by rw [zaf,Hdx.out];simp)] at h2;simp at h2;omega
            have hi1:(at2:Int)≤e:=by omega
            have hi2:(e:Int)≤s.size:=by omega
            have Hbs:=zh (zbk s at2 e);have Hlist:Hid ((s.extract at2 e).data.toList=(x :: s.data.toList.drop (at2+1)).takeWhile zaf):=zh (by rw [zbX,HWL.out.1,Hdg.out])
            have HVl:=zh (zg2 (s.extract at2 e) (wq.alloc (.cells #[.int .u8 4,.string ByteArray.empty,.int .i64 0,.int .i64 (line2:Int),.int .i64 ((at2:Int) - first2+1)] 93)) (by
             have h:=zaq (s.extract at2 e);rw [zbX,List.length_take,List.length_drop,zaq] at h
             omega))
            rw [Hlist.out] at HVl
            cases hvr:zaS ((x :: s.data.toList.drop (at2+1)).takeWhile zaf) with
            | none =>
             have Hf2:Hid (final=.err (line2:Int) ((at2:Int) - first2+1) 112):=zh (by
              rw [Hfi.out,zaK,if_neg (by rw [Hlx.out];decide),if_pos Hdx.out,hvr]
              rfl)
             rw [hvr] at HVl;clear hvr;go_wp2_with fail
             go_at_call 110;refine HVl.out.mono ?_;rintro e1 w2 ⟨rfl,rfl⟩;unfold numE;have hB:=OwnV.new wq 93 [.int .u8 4,.string ByteArray.empty,.int .i64 0,.int .i64 (line2:Int),.int .i64 ((at2:Int) - first2+1)];have hb1:=Hb.out.alloc Hb.out.size (.cells #[.int .u8 4,.string ByteArray.empty,.int .i64 0,.int .i64 (line2:Int),.int .i64 ((at2:Int) - first2+1)] 93);go_wp2_with fail
             generalize wq.alloc (.cells #[.int .u8 4,.string ByteArray.empty,.int .i64 0,.int .i64 (line2:Int),.int .i64 ((at2:Int) - first2+1)] 93)=w8 at *
             have c3:=hB.cell (i:=3) rfl;have c4:=hB.cell (i:=4) rfl;have Hb8:=zh hb1;clear hB hb1;refine zac (fun w'=>Below w8.heap.size w8 w') (by kernel_rfl) (by kernel_rfl) ((Below.refl _ _).drew) ?_
             repeat
              try simp only [Act.put,zs1,zs3,zs2]
              apply stepsSeq.cons
              ·intro w' hb1;have Hb1':=zh hb1;have c3':=Below.keep hb1 c3;have c4':=Below.keep hb1 c4;simp only [Act.put,zs1,zs3,zs2];go_wp2_with (fail)
               first | exact ⟨rfl,Hb1'.out⟩ | exact ⟨rfl,Hb1'.out.trans (hb2.mono Hb1'.out.size)⟩
             try simp only [Act.put,zs1,zs3,zs2]
             refine stepsSeq.nil ?_;intro w' hb1;clear c3 c4;go_wp2
             exact bodyPost_ret (v:=.tuple #[.slice none 0 0,.int .i64 (line2:Int),.int .i64 ((at2:Int) - first2+1),.int .i64 112]) (by simp [results,Tryz.results70,go_sem]) rfl ⟨by rw [Hf2.out];rfl,Hb8.out.trans (hb1.mono Hb8.out.size)⟩
            | some n =>
             have Hf2:Hid (final=(zbr f' (s.data.toList.drop e) (line2:Int) ((e:Int) - first2+1)).pre (ts++[⟨2,(s.data.toList.drop at2).take (e - at2),n,(line2:Int),(at2:Int) - first2+1⟩])):=zh (by
              rw [Hfi.out,zaK,if_neg (by rw [Hlx.out];decide),if_pos Hdx.out,hvr];simp only;rw [HWL.out.2,LexR.pre_cons,HWL.out.1,Hdg.out];congr 2
              ·rw [← Hdg.out,List.drop_drop];congr 1;omega
              ·omega)
             rw [hvr] at HVl;clear hvr;have hown1:=Hown.out.alloc (.cells #[.int .u8 2,.string (s.extract at2 e),.int .i64 n,.int .i64 (line2:Int),.int .i64 ((at2:Int) - first2+1)] 93);have hb1:=Hb.out.alloc Hb.out.size (.cells #[.int .u8 2,.string (s.extract at2 e),.int .i64 n,.int .i64 (line2:Int),.int .i64 ((at2:Int) - first2+1)] 93);go_wp2_with fail
             go_at_call 110;refine HVl.out.mono ?_;rintro e1 w2 ⟨rfl,rfl⟩;unfold numE;go_wp2_with (at_builtin;refine zbm rfl (.tmp 158) (.tmp 160) 90 rfl hown1 zcM Tryz.underlying90 rfl (by decide) rfl 1 1 (by show Value.slice (some ⟨wq.heap.size+1,0,none⟩) 1 1=_;simp) rfl rfl (by unfold maxLen;omega) (by omega) hb1.size ?_;intro v' w3 hown3 hg3 hb4)
             go_roundw
             case rel =>
              refine ⟨e,line2,first2,f',ts++[⟨2,(s.data.toList.drop at2).take (e - at2),n,(line2:Int),(at2:Int) - first2+1⟩],by omega,by omega,by omega,by omega,by simp;omega,rfl,rfl,rfl,?_,zh Hf2.out,hb1.trans hb4⟩;rw [Hbs.out] at hown3;rw [List.length_append,List.flatMap_append];exact hown3
             case measure=>simp [intOf];omega
           | false =>
            have Hxn:Hid ((s.extract at2 s.size).data.toList=x :: s.data.toList.drop (at2+1)):=zh (by rw [zbX,← Hdg.out,List.take_of_length_le (by rw [List.length_drop,zaq];omega)])
            have hxs:(s.extract at2 s.size).size=s.size - at2:=by
             have h:=zaq (s.extract at2 s.size);rw [zbX,List.length_take,List.length_drop,zaq] at h;omega
            have HSg:=zh (ziO (s.extract at2 s.size) (wq.alloc (.cells #[.int .u8 4,.string ByteArray.empty,.int .i64 0,.int .i64 (line2:Int),.int .i64 ((at2:Int) - first2+1)] 93)) (by omega) (by omega));rw [Hxn.out] at HSg;have hi2:(at2:Int)≤s.size:=by omega
            clear hxs;have hsl:=zgx (x :: s.data.toList.drop (at2+1))
            have hsl1:at2+zag (x :: s.data.toList.drop (at2+1))≤s.size:=by
             have h:=hsl.1;rw [← Hdg.out,List.length_drop,zaq] at h;rw [← Hdg.out];omega
            have hsl2:=hsl.2
            have Hfs:Hid (zaK (zbr f') (x :: s.data.toList.drop (at2+1)) (line2:Int) ((at2:Int) - first2+1)=if zag (x :: s.data.toList.drop (at2+1))=0 then .err (line2:Int) ((at2:Int) - first2+1) 110 else (zbr f' ((x :: s.data.toList.drop (at2+1)).drop (zag (x :: s.data.toList.drop (at2+1)))) (line2:Int) ((at2:Int) - first2+1+zag (x :: s.data.toList.drop (at2+1)))).cons ⟨3,(x :: s.data.toList.drop (at2+1)).take (zag (x :: s.data.toList.drop (at2+1))),0,(line2:Int),(at2:Int) - first2+1⟩):=zh (by
             rw [zaK,if_neg (by rw [Hlx.out];decide),if_neg (by rw [Hdx.out];decide)])
            generalize zag (x :: s.data.toList.drop (at2+1))=sl at *
            clear hsl;go_wp2_with fail
            go_at_call 111;refine HSg.out.mono ?_;rintro e1 w5 ⟨rfl,hb5⟩;have hgw:w.heap.size≤wq.heap.size:=Hb.out.size;have hB:=(OwnV.new wq 93 [.int .u8 4,.string ByteArray.empty,.int .i64 0,.int .i64 (line2:Int),.int .i64 ((at2:Int) - first2+1)]).below hb5 (zr _);have hown5:=zbu (Hown.out.alloc (.cells #[.int .u8 4,.string ByteArray.empty,.int .i64 0,.int .i64 (line2:Int),.int .i64 ((at2:Int) - first2+1)] 93)) hb5 (zr _);have hb8:=(Hb.out.alloc Hb.out.size (.cells #[.int .u8 4,.string ByteArray.empty,.int .i64 0,.int .i64 (line2:Int),.int .i64 ((at2:Int) - first2+1)] 93)).trans (hb5.mono (by simp;omega));have hbn:∀ b,(Value.slice oa ts.length ocap).ownBlock=some b→b≠wq.heap.size:=fun b hb'=>by have:=(Hown.out.lt b hb').2;omega
            have c0:=hB.cell (i:=0) rfl;have c1:=hB.cell (i:=1) rfl;have c2:=hB.cell (i:=2) rfl;have c3:=hB.cell (i:=3) rfl;have c4:=hB.cell (i:=4) rfl;have f0:=hB.free 0;have f1:=hB.free 1;have Hb8:=zh hb8;have Hown5:=zh hown5;have Hbn:=zh hbn;have hglt:=hB.lt;clear hb5 hB hown5 hb8 hbn;rcases Nat.eq_zero_or_pos sl with h0 | h0
            ·have Hf2:Hid (final=.err (line2:Int) ((at2:Int) - first2+1) 110):=zh (by
              rw [Hfi.out,Hfs.out,if_pos h0]
              rfl)
             have hz:((sl:Int) == 0)=true:=by simp [h0]
             clear h0;go_wp2_with fail
             refine zac (fun w'=>Below w5.heap.size w5 w') (by kernel_rfl) (by kernel_rfl) ((Below.refl _ _).drew) ?_
             repeat
              try simp only [Act.put,zs1,zs3,zs2]
              apply stepsSeq.cons
              ·intro w' hb1;have Hb1':=zh hb1;have c3':=Below.keep hb1 c3;have c4':=Below.keep hb1 c4;simp only [Act.put,zs1,zs3,zs2];go_wp2_with (fail)
               first | exact ⟨rfl,Hb1'.out⟩ | exact ⟨rfl,Hb1'.out.trans (hb2.mono Hb1'.out.size)⟩
             try simp only [Act.put,zs1,zs3,zs2]
             refine stepsSeq.nil ?_;intro w' hb1;clear c0 c1 c2 c3 c4 f0 f1;go_wp2;exact bodyPost_ret (v:=.tuple #[.slice none 0 0,.int .i64 (line2:Int),.int .i64 ((at2:Int) - first2+1),.int .i64 110]) (by simp [results,Tryz.results70,go_sem]) rfl ⟨by rw [Hf2.out];rfl,Hb8.out.trans (hb1.mono Hb8.out.size)⟩
            ·have Hf2:Hid (final=(zbr f' (s.data.toList.drop (at2+sl)) (line2:Int) (((at2+sl:Nat):Int) - first2+1)).pre (ts++[⟨3,(s.data.toList.drop at2).take (at2+sl - at2),0,(line2:Int),(at2:Int) - first2+1⟩])):=zh (by
              rw [Hfi.out,Hfs.out,if_neg (by omega),LexR.pre_cons,Hdg.out,Nat.add_sub_cancel_left];congr 2
              ·rw [← Hdg.out,List.drop_drop]
              ·omega)
             have hz:((sl:Int) == 0)=false:=by rw [beq_eq_false_iff_ne];omega
             have he2:(at2:Int)+sl≤s.size:=by omega
             have he3:(at2:Int)≤(at2:Int)+sl:=by omega
             have he4:((at2:Int)+(sl:Int)).toNat=at2+sl:=by omega
             have he5:(0:Int)≤(at2:Int)+sl:=by omega
             have hown1:(((w5.setCell ⟨wq.heap.size,0,none⟩ (.int .u8 3)).setCell ⟨wq.heap.size,1,none⟩ (.string (s.extract at2 (at2+sl))))).ownsRow w.heap.size 93 5 (.slice oa ts.length ocap) ts.length (ts.flatMap Tok.cells):=zdB (zdB Hown5.out Hbn.out 0 _) Hbn.out 1 _;have hb1:Below w.heap.size w ((w5.setCell ⟨wq.heap.size,0,none⟩ (.int .u8 3)).setCell ⟨wq.heap.size,1,none⟩ (.string (s.extract at2 (at2+sl)))):=(Hb8.out.setCell (p:=Addr.mk wq.heap.size 0 none) hgw _).setCell (p:=Addr.mk wq.heap.size 1 none) hgw _;have Hbs:=zh (zbk s at2 (at2+sl));have hws:((w5.setCell ⟨wq.heap.size,0,none⟩ (.int .u8 3)).setCell ⟨wq.heap.size,1,none⟩ (.string (s.extract at2 (at2+sl)))).heap.size=w5.heap.size:=by simp
             go_wp2_with (at_builtin;refine zbm rfl (.tmp 158) (.tmp 160) 90 rfl hown1 zcM Tryz.underlying90 rfl (by decide) rfl 1 1 (by show Value.slice (some ⟨w5.heap.size,0,none⟩) 1 1=_;simp) rfl rfl (by unfold maxLen;omega) (by omega) hb1.size ?_;intro v' w3 hown3 hg3 hb4)
             go_roundw
             case rel =>
              refine ⟨at2+sl,line2,first2,f',ts++[⟨3,(s.data.toList.drop at2).take (at2+sl - at2),0,(line2:Int),(at2:Int) - first2+1⟩],by omega,by omega,by omega,by omega,by simp;omega,by go_num,rfl,rfl,?_,zh Hf2.out,hb1.trans hb4⟩;rw [Hbs.out] at hown3;rw [List.length_append,List.flatMap_append];exact hown3
             case measure=>simp [intOf];omega
       all_goals
        have Hsk2:Hid (zam (s.data.toList.drop (at2+1)) false (line2:Int) (((at2+1:Nat):Int) - first2+1)=T):=zh (by
         have h:=Hsk.out;rw [Hdg.out,zdG (by first | exact .inl (Hp.out.1.1 rfl) | exact .inr (Hp.out.2.1.1 rfl))] at h
         rw [← h];congr 1;omega)
        clear Hsk Hp;go_wp2;go_roundw
        case rel=>exact ⟨at2+1,line2,first2,by omega,by omega,by omega,by omega,by go_num,rfl,rfl,Hsk2,by first | rfl | trivial⟩
        case measure=>simp [intOf];omega
      ·have Hsk2:Hid (zam (s.data.toList.drop (at2+1)) false ((line2+1:Nat):Int) (((at2+1:Nat):Int) - ((at2+1:Nat):Int)+1)=T):=zh (by
        have h:=Hsk.out;rw [Hdg.out,zdF (Hp.out.2.2.1.1 rfl)] at h
        rw [← h];congr 1 <;> omega)
       have h10:=Hp.out.2.2.1.1 rfl
       obtain ⟨rfl,rfl⟩:p32=false∧p9=false:=by
        have h1:=Hp.out.1.1;have h2:=Hp.out.2.1.1;constructor
        ·cases p32
         ·rfl
         ·have:=h1 rfl;omega
        ·cases p9
         ·rfl
         ·have:=h2 rfl;omega
       clear Hsk Hp h10;go_wp2;go_roundw
       case rel=>exact ⟨at2+1,line2+1,at2+1,by omega,by omega,by omega,by omega,by go_num,by go_num,by go_num,Hsk2,by first | rfl | trivial⟩
       case measure=>simp [intOf];omega
     ·have h35:=Hp.out.2.2.2.1 rfl;have Hn10:Hid (x.toNat≠10):=zh (by omega)
      obtain ⟨rfl,rfl,rfl⟩:p32=false∧p9=false∧p10=false:=by
       have h1:=Hp.out.1.1;have h2:=Hp.out.2.1.1;have h3:=Hp.out.2.2.1.1;refine ⟨?_,?_,?_⟩
       ·cases p32
        ·rfl
        ·have:=h1 rfl;omega
       ·cases p9
        ·rfl
        ·have:=h2 rfl;omega
       ·cases p10
        ·rfl
        ·have:=h3 rfl;omega
      have Hsk3:Hid (zam (s.data.toList.drop at2) true (line2:Int) ((at2:Int) - first2+1)=T):=zh (by
       have h:=Hsk.out;rw [Hdg.out,zgK h35] at h;rw [Hdg.out,zfj (by omega)]
       exact h)
      clear Hsk Hp h35;go_wp2_with fail
      obtain ⟨wp,rfl⟩:∃ wp:World,wp=wr:=⟨_,rfl⟩;go_loopw [9,50,51,52,53,54,55,56,57,58,59,60,61] (fun t9 _ _ _ _ _ _ _ _ _ _ _ _ wr=>∃ at3:Nat,at2≤at3∧at3≤s.size∧t9=.int .i64 at3∧Hid (zam (s.data.toList.drop at3) true (line2:Int) ((at3:Int) - first2+1)=T)∧wr=wp) (fun t9 _ _ _ _ _ _ _ _ _ _ _ _ _=>s.size - (intOf t9).toNat)
      case atStart=>exact ⟨at2,by omega,by omega,rfl,zh Hsk3.out,rfl⟩
      case round =>
       obtain ⟨at3,ha3,hat3,rfl,Hs3,rfl⟩:=hrel;by_cases hlt3:at3 < s.size
       ·have hlt31:(at3:Int) < s.size:=by omega
        have Hdg3:=zh (za2 s hlt3);have hy255:s[at3].toNat≤255:=by have:=s[at3].toNat_lt;omega
        have Hxy:Hid (∀ h:at3 < s.size,s[at3].toNat=10→at3≠at2):=zh (by
         rintro h e rfl
         exact Hn10.out (by rw [← Hx.out];exact e))
        obtain ⟨q,q',hq,hq',hqq,hq2⟩:∃ q q':Bool,((s[at3].toNat:Int) != 10)=q∧((s[at3].toNat:Int) == 10)=q'∧q' = !q∧(q=false ↔ s[at3].toNat=10):=⟨_,_,rfl,rfl,by rw [bne,Bool.not_not],by rw [bne_eq_false_iff_eq];omega⟩;subst hqq;have Hq:=zh hq2;have Hxy2:=zh (Hxy.out hlt3)
        generalize hy:s[at3]=y at *
        clear hq2;cases q <;> simp only [Bool.not_false,Bool.not_true] at hq'
        ·have h10:=Hq.out.1 rfl
         have Hsk2:Hid (zam (s.data.toList.drop at3) false (line2:Int) ((at3:Int) - first2+1)=T):=zh (by
          rw [← zfI (.inr ⟨y,_,Hdg3.out,h10⟩)];exact Hs3.out)
         have hne:=Hxy2.out h10;clear h10;go_wp2;go_roundw
         case rel=>exact ⟨at3,line2,first2,by omega,by omega,by omega,by omega,rfl,rfl,rfl,Hsk2,by first | rfl | trivial⟩
         case measure=>simp [intOf];omega
        ·have Hs4:Hid (zam (s.data.toList.drop (at3+1)) true (line2:Int) (((at3+1:Nat):Int) - first2+1)=T):=zh (by
          have h:=Hs3.out;rw [Hdg3.out,zfj (fun e=>by have:=Hq.out.2 e;cases this)] at h
          rw [← h];congr 1;omega)
         go_wp2;go_roundw
         case rel=>exact ⟨at3+1,by omega,by omega,by go_num,Hs4,by first | rfl | trivial⟩
         case measure=>simp [intOf];omega
       ·obtain rfl:at3=s.size:=by omega
        have Hsk2:Hid (zam (s.data.toList.drop s.size) false (line2:Int) ((s.size:Int) - first2+1)=T):=zh (by
         rw [← zfI (.inl (zdf s (zr _)))];exact Hs3.out)
        go_wp2;go_roundw
        case rel=>exact ⟨s.size,line2,first2,by omega,by omega,by omega,by omega,rfl,rfl,rfl,Hsk2,by first | rfl | trivial⟩
        case measure=>simp [intOf];omega
    ·obtain rfl:at2=s.size:=by omega
     have hlt1:¬ (s.size:Int) < s.size:=by omega
     have HTe:Hid (final=.ok (ts++[⟨4,[],0,(line2:Int),(s.size:Int) - first2+1⟩])):=zh (by
      have h:=HT2.out;have h2:=Hsk.out;rw [zdf s (zr _),zml] at h2;rw [← h2] at h
      exact h)
     have hown1:=Hown.out.alloc (.cells #[.int .u8 4,.string ByteArray.empty,.int .i64 0,.int .i64 (line2:Int),.int .i64 ((s.size:Int) - first2+1)] 93);have hb1:=Hb.out.alloc Hb.out.size (.cells #[.int .u8 4,.string ByteArray.empty,.int .i64 0,.int .i64 (line2:Int),.int .i64 ((s.size:Int) - first2+1)] 93);clear Hsk;go_wp2_with (at_builtin;refine zbm rfl (.tmp 82) (.tmp 84) 90 rfl hown1 zcM Tryz.underlying90 rfl (by decide) rfl 1 1 (by show Value.slice (some ⟨wr.heap.size+1,0,none⟩) 1 1=_;simp) rfl rfl (by unfold maxLen;omega) (by omega) hb1.size ?_;intro v' w3 hown3 hg3 hb4)
     exact bodyPost_ret (v:=.tuple #[v',.int .i64 0,.int .i64 0,.int .i64 0]) (by simp [results,Tryz.results70,go_sem]) rfl ⟨by
      rw [HTe.out];refine ⟨v',rfl,?_⟩;have h:=Sl.of_own hown3;unfold Toks;rw [List.length_append,List.flatMap_append]
      exact h,hb1.trans hb4⟩
 ·have hl1:(16384:Int) < s.size:=by omega
  have Hf:Hid (lexS s.data.toList=.err 0 0 3):=zh (by rw [lexS,zaq,if_pos (by omega)]);go_enter Tryz.func70,Tryz.ntmps70
  go_wp2;exact bodyPost_ret (v:=.tuple #[.slice none 0 0,.int .i64 0,.int .i64 0,.int .i64 3]) (by simp [results,Tryz.results70,go_sem]) rfl ⟨by rw [Hf.out];rfl,Below.refl _ _⟩
theorem ziC (xs ys:List St):szSs (xs++ys)=szSs xs+szSs ys:=by
 induction xs with
 | nil=>simp [szSs]
 | cons x r ih=>simp only [List.cons_append,szSs,ih];omega
theorem zlM {xs:List St} {k:Nat} {x:St} (h:xs[k]? = some x):szSs (xs.take (k+1))=szSs (xs.take k)+szS x:=by
 obtain ⟨hlt,rfl⟩:=List.getElem?_eq_some_iff.1 h;rw [List.take_succ_eq_append_getElem hlt,ziC];rfl
theorem znt {xs:List St} {k:Nat} {x:St} (h:xs[k]? = some x):szS x≤szSs xs:=by
 have:=ziC (xs.take (k+1)) (xs.drop (k+1));rw [List.take_append_drop,zlM h] at this;omega
theorem szS_mk {xs:List St} {k:Nat} {op n:Int} {name:List UInt8} {es:List Ex} {body els:List St} (h:xs[k]? = some (.mk op n name es body els)):szEs es < szSs xs∧szSs body < szSs xs∧szSs els < szSs xs:=by
 have:=znt h;simp only [szS] at this;omega

theorem ze8 (l:List Tok) (v:Value) (i:Nat) (s:List UInt8) (w:World) (hT:Toks w l v) (hi:i < l.length) :
  Calls Tryz.prog 114 #[v,.int .i64 i,.string (bstr s)] w fun e w'=>e=.returned (.bool (isS l i s))∧w=w':=by
 obtain ⟨a,cap,rfl,hc1,hc2⟩:=Sl.form hT;obtain ⟨b,off,rfl,c0,c1,c2,c3,c4⟩:=zaF hT hi;have hi1:(i:Int) < l.length:=by omega
 obtain ⟨p,q,hp,hq,hr⟩:∃ p q:Bool,((zaa l i).kind != 4)=p∧((bstr (zaa l i).text).toList == (bstr s).toList)=q∧isS l i s=(p && q):=by
  refine ⟨_,_,rfl,rfl,?_⟩;unfold isS;congr 1
  ·rw [Bool.eq_iff_iff];simp
  ·rw [Bool.eq_iff_iff,decide_eq_true_eq];exact (zdP _ _).symm
 rw [hr];clear hr;cases p
 ·go_enter Tryz.func114,Tryz.ntmps114
  go_wp2;go_ret;exact ⟨rfl,rfl⟩
 ·cases q
  all_goals
   go_enter Tryz.func114,Tryz.ntmps114
   go_wp2_with fail
   go_ret;exact ⟨rfl,rfl⟩
def zcf (t : Tok) : Nat := if t.kind = 3 then zai t.text signWords 0 else 0
def twoE (n : Nat) : Ending := .returned (.tuple #[.int .u8 ((if n = 0 then 0 else 9 + n : Nat) : Int), .int .i64 ((strongs.getD n 0 : Nat) : Int)])
theorem zjI (t:Tok) (w:World):Calls Tryz.prog 117 #[.agg #[.int .u8 t.kind,.string (bstr t.text),.int .i64 t.n,.int .i64 t.line,.int .i64 t.col]] w fun e w' =>
  e=twoE (zcf t)∧Below w.heap.size w w':=by
 by_cases h3:t.kind=3
 ·have hk:(t.kind != 3)=false:=by simp [h3]
  have Hf:Hid (zcf t=zai t.text (signWords.drop 0) 0):=zh (by unfold zcf;rw [if_pos h3];rfl);clear h3;generalize zcf t=final at Hf ⊢;have s1:∀ o,(w.alloc o).heap.size=w.heap.size+1:=by intro o;simp
  have s2:∀ o p,((w.alloc o).alloc p).heap.size=w.heap.size+1+1:=by intro o p;simp
  have HA:=zh (OwnV.new w 93 (Tok.cells t));have HB:=zh (OwnV.new (w.alloc (.cells (Tok.cells t).toArray 93)) 9 (signWords.map fun s=>Value.string (bstr s)));have HC:=zh (OwnV.new ((w.alloc (.cells (Tok.cells t).toArray 93)).alloc (.cells (signWords.map fun s=>Value.string (bstr s)).toArray 9)) 3 (strongs.tail.map fun (n:Nat)=>Value.int .i64 n));rw [s1] at HB;rw [s2] at HC;clear s1 s2;go_enter Tryz.func117,Tryz.ntmps117
  go_wp2_with fail
  go_loopw [2,3,6,12,13,14,15,16,17,18,19,20,21,22,23,24,25,26,27,28,29,30,31] (fun _ _ t6 _ _ _ _ _ _ _ _ _ _ _ _ _ _ _ _ _ _ _ _ wr=>∃ k:Nat,k≤13∧t6=.int .i64 k∧Hid (final=zai t.text (signWords.drop k) k)∧Hid (OwnV wr w.heap.size 93 (Tok.cells t))∧Hid (OwnV wr (w.heap.size+1) 9 (signWords.map fun s=>Value.string (bstr s)))∧Hid (OwnV wr (w.heap.size+1+1) 3 (strongs.tail.map fun (n:Nat)=>Value.int .i64 n))∧Below w.heap.size w wr) (fun _ _ t6 _ _ _ _ _ _ _ _ _ _ _ _ _ _ _ _ _ _ _ _ _=>13 - (intOf t6).toNat)
  case atStart=>exact ⟨0,by omega,rfl,zh Hf.out,zh ((HA.out.alloc _).alloc _),zh (HB.out.alloc _),zh HC.out,(((Below.refl _ _).alloc (zr _) _).alloc (by simp) _).alloc (by simp;omega) _⟩
  case round =>
   obtain ⟨k,hk,rfl,Hk,HA,HB,HC,hb⟩:=hrel;have Hb:=zh hb;clear hb;have hsz:w.heap.size≤wr.heap.size:=Hb.out.size;by_cases hlt:k < 13
   ·have hlt1:(k:Int) < 13:=by omega
    have hkl:k < signWords.length:=hlt;have c0:wr.cell? ⟨w.heap.size,1,none⟩=some (.string (bstr t.text)):=HA.out.cell rfl;have c1:wr.cell? ⟨w.heap.size+1,k,none⟩=some (.string (bstr (signWords[k]'hkl))):=HB.out.cell (by rw [List.getElem?_map,List.getElem?_eq_getElem hkl];rfl);have Hst:=zh (zc5 (s:=t.text) (l:=signWords) (k:=k) hkl);obtain ⟨q,hq,hq2⟩:∃ q:Bool,((bstr (signWords[k]'hkl)).toList == (bstr t.text).toList)=q∧(q=true ↔ signWords[k]'hkl=t.text):=⟨_,rfl,zdP _ _⟩
    generalize signWords[k]'hkl=kw at *
    have Hq:=zh hq2;clear hq2;go_wp2_with fail
    refine zac (fun w'=>Below wr.heap.size wr w') (by kernel_rfl) (by kernel_rfl) ((Below.refl _ _).drew) ?_
    repeat
     try simp only [Act.put,zs1,zs3,zs2]
     apply stepsSeq.cons
     ·intro w' hb1;have Hb1':=zh hb1;have c0':=Below.keep hb1 c0;have c1':=Below.keep hb1 c1;simp only [Act.put,zs1,zs3,zs2];go_wp2_with (fail)
      first | exact ⟨rfl,Hb1'.out⟩ | exact ⟨rfl,Hb1'.out.trans (hb2.mono Hb1'.out.size)⟩
    try simp only [Act.put,zs1,zs3,zs2]
    refine stepsSeq.nil ?_;intro w' hb1;have Hb2:=zh (Hb.out.trans (hb1.mono hsz));clear c0 c1;cases q
    ·have Hk2:Hid (final=zai t.text (signWords.drop (k+1)) (k+1)):=zh (by rw [Hk.out,Hst.out,if_neg (fun e=>by have:=Hq.out.2 e;cases this)]);go_wp2_with fail
     go_roundw
     case rel=>exact ⟨k+1,by omega,by go_num,zh Hk2.out,zh (HA.out.below hb1 (zr _)),zh (HB.out.below hb1 (zr _)),zh (HC.out.below hb1 (zr _)),Hb2.out⟩
     case measure=>simp [intOf];omega
    ·have Hk2:Hid (final=k+1):=zh (by rw [Hk.out,Hst.out,if_pos (Hq.out.1 rfl)]);have HC2:=zh (HC.out.below hb1 (zr _))
     have Hst3:Hid ((strongs.tail.map fun (n:Nat)=>Value.int .i64 n)[k]? = some (.int .i64 ((strongs.getD (k+1) 0:Nat):Int))):=zh (by
      have:∀ j:Fin 13,strongs.tail[j.val]? = some (strongs.getD (j.val+1) 0):=by decide
      rw [List.getElem?_map,this ⟨k,hlt⟩];rfl)
     obtain ⟨wv,hwv⟩:∃ wv:World,wv=w':=⟨_,rfl⟩;subst hwv;have c3:wv.cell? ⟨w.heap.size+1+1,k,none⟩=some (.int .i64 ((strongs.getD (k+1) 0:Nat):Int)):=HC2.out.cell Hst3.out;clear hb1;go_wp2_with fail
     refine zac (fun w'=>Below wv.heap.size wv w') (by kernel_rfl) (by kernel_rfl) ((Below.refl _ _).drew) ?_
     repeat
      try simp only [Act.put,zs1,zs3,zs2]
      apply stepsSeq.cons
      ·intro w' hb1;have Hb1':=zh hb1;have c3':=Below.keep hb1 c3;simp only [Act.put,zs1,zs3,zs2];go_wp2_with (fail)
       first | exact ⟨rfl,Hb1'.out⟩ | exact ⟨rfl,Hb1'.out.trans (hb2.mono Hb1'.out.size)⟩
     try simp only [Act.put,zs1,zs3,zs2]
     refine stepsSeq.nil ?_;intro w' hb1;clear c3;go_wp2_with fail
     exact bodyPost_ret (v:=.tuple #[.int .u8 (10+(k:Int)),.int .i64 ((strongs.getD (k+1) 0:Nat):Int)]) (by simp [results,Tryz.results117,go_sem]) rfl ⟨by rw [Hk2.out,twoE,if_neg (by omega),show ((9+(k+1):Nat):Int)=10+(k:Int) by omega],Hb2.out.trans (hb1.mono (by have:=Hb2.out.size;omega))⟩
   ·have hlt1:¬ (k:Int) < 13:=by omega
    have Hk2:Hid (final=0):=zh (by rw [Hk.out,zdq (by show 13≤k;omega)]);go_wp2_with fail
    exact bodyPost_ret (v:=.tuple #[.int .u8 0,.int .i64 0]) (by simp [results,Tryz.results117,go_sem]) rfl ⟨by first | rfl | (rw [Hk2.out];rfl),Hb.out⟩
 ·have hk:(t.kind != 3)=true:=by simp [h3]
  have hf:zcf t=0:=by unfold zcf;rw [if_neg h3]
  rw [hf];go_enter Tryz.func117,Tryz.ntmps117
  go_wp2_with fail
  exact bodyPost_ret (v:=.tuple #[.int .u8 0,.int .i64 0]) (by simp [results,Tryz.results117,go_sem]) rfl ⟨rfl,(Below.refl _ _).alloc (zr _) _⟩
def zcE : PR Unit → Ending
  | .ok _ n => .returned (.tuple #[.int .i64 n, .int .i64 0])
  | .err a c => .returned (.tuple #[.int .i64 a, .int .i64 c])
theorem zd8 (l:List Tok) (v:Value) (i:Nat) (s:List UInt8) (o:Nat) (w:World) (hT:Toks w l v) (hi:i < l.length) (hm:l.length≤4611686018427387904) :
  Calls Tryz.prog 146 #[v,.int .i64 i,.string (bstr s),.int .i64 o] w fun e w'=>e=zcE (zay l i s o)∧w=w':=by
 have HI:=zh (ze8 l v i s w hT hi);obtain ⟨p,hp,Hp⟩:∃ p:Bool,isS l i s=p∧Hid (zay l i s o=if p=false then .err i 120 else if 200≤o then .err i 121 else .ok () (i+1)):=⟨_,rfl,zh rfl⟩;rw [hp] at HI;clear hp;generalize zay l i s o=final at Hp ⊢;have hi1:(i:Int)≤4611686018427387904:=by omega
 cases p
 ·have Hf:Hid (final=.err i 120):=zh (by rw [Hp.out,if_pos rfl]);go_enter Tryz.func146,Tryz.ntmps146
  go_wp2_with fail
  go_at_call 114;refine HI.out.mono ?_;rintro e1 w2 ⟨rfl,rfl⟩;go_wp2_with fail
  exact bodyPost_ret (v:=.tuple #[.int .i64 i,.int .i64 120]) (by simp [results,Tryz.results146,go_sem]) rfl ⟨by rw [Hf.out];rfl,rfl⟩
 ·by_cases ho:200≤o
  ·have ho1:(o:Int) ≥ 200:=by omega
   have Hf:Hid (final=.err i 121):=zh (by rw [Hp.out,if_neg (by decide),if_pos ho]);go_enter Tryz.func146,Tryz.ntmps146
   go_wp2_with fail
   go_at_call 114;refine HI.out.mono ?_;rintro e1 w2 ⟨rfl,rfl⟩;go_wp2_with fail
   exact bodyPost_ret (v:=.tuple #[.int .i64 i,.int .i64 121]) (by simp [results,Tryz.results146,go_sem]) rfl ⟨by rw [Hf.out];rfl,rfl⟩
  ·have ho1:¬ (o:Int) ≥ 200:=by omega
   have Hf:Hid (final=.ok () (i+1)):=zh (by rw [Hp.out,if_neg (by decide),if_neg ho]);go_enter Tryz.func146,Tryz.ntmps146
   go_wp2_with fail
   go_at_call 114;refine HI.out.mono ?_;rintro e1 w2 ⟨rfl,rfl⟩;go_wp2_with fail
   exact bodyPost_ret (v:=.tuple #[.int .i64 (i+1),.int .i64 0]) (by simp [results,Tryz.results146,go_sem]) rfl ⟨by rw [Hf.out];rfl,rfl⟩
def ExsE (l : List Tok) (i : Nat) (w w' : World) (e : Ending) : PR (List Ex) → Prop
  | .ok xs j => ∃ v, e = .returned (.tuple #[v, .int .i64 j, .int .i64 0]) ∧ (∃ cs, w'.ownsRow w.heap.size 29 4 v xs.length cs ∧ ExsC w' (fun g => w.heap.size ≤ g ∧ v.ownBlock ≠ some g) xs cs) ∧ i < j ∧ j < l.length
  | .err a c => e = .returned (.tuple #[.slice none 0 0, .int .i64 a, .int .i64 c]) ∧ (c = 120 ∨ c = 121) ∧ a < l.length
theorem ExsC.weak1 {w:World} {P Q:Nat→Prop} {xs:List Ex} {cs:List Value} (h:ExsC w (fun g=>P g∧Q g) xs cs):ExsC w P xs cs:=h.weak fun _ _ h=>h.1
theorem zfV {wr w2 W0 w3:World} {B:Nat} {e:TypeId} {v v':Value} {k:Nat} {xs:List Ex} {x:Ex} {cs cx:List Value} (hown:wr.ownsRow B e 4 v k cs) (hX:ExsC wr (fun g=>B≤g∧v.ownBlock≠some g) xs cs)
  (hb2:Below wr.heap.size wr w2) (hX2:ExsC w2 (fun g=>wr.heap.size≤g) [x] cx) (hB:B≤wr.heap.size) (hb3:Below w2.heap.size w2 W0)
  (hg:W0.grownBy w3 v.ownBlock) (hat:v'.ownBlock=v.ownBlock∨∃ g,v'.ownBlock=some g∧W0.heap.size≤g):ExsC w3 (fun g=>B≤g∧v'.ownBlock≠some g) (xs++[x]) (cs++cx):=by
 have hlt:∀ g,v.ownBlock=some g→g < wr.heap.size:=fun g hg=>(hown.lt g hg).2
 have h1:ExsC W0 (fun g=>B≤g∧v.ownBlock≠some g) xs cs:=(hX.under hb2 (zr _)).under hb3 (zr _);have h2:ExsC W0 (fun g=>B≤g∧v.ownBlock≠some g) [x] cx:=(hX2.under hb3 (zr _)).weak fun g _ h=>⟨Nat.le_trans hB h,fun e=>by have:=hlt g e;omega⟩
 have h3:ExsC W0 (fun g=>(B≤g∧v'.ownBlock≠some g)∧v.ownBlock≠some g) (xs++[x]) (cs++cx):=(h1.append h2).weak fun g hlt h=>⟨⟨h.1,fun e=>by
  rcases hat with hat | ⟨g',hg',hle⟩
  ·exact h.2 (hat ▸ e)
  ·rw [hg'] at e;cases e;omega⟩,h.2⟩
 exact (h3.grown hg (fun g e h=>h.2 e)).weak fun g _ h=>h.1
theorem ziF {wr w2 W0 w3:World} {B:Nat} {e:TypeId} {v v':Value} {k:Nat} {xs:List St} {x:St} {cs cx:List Value} (hown:wr.ownsRow B e 6 v k cs) (hX:StsC wr (fun g=>B≤g∧v.ownBlock≠some g) xs cs)
  (hb2:Below wr.heap.size wr w2) (hX2:StsC w2 (fun g=>wr.heap.size≤g) [x] cx) (hB:B≤wr.heap.size) (hb3:Below w2.heap.size w2 W0)
  (hg:W0.grownBy w3 v.ownBlock) (hat:v'.ownBlock=v.ownBlock∨∃ g,v'.ownBlock=some g∧W0.heap.size≤g):StsC w3 (fun g=>B≤g∧v'.ownBlock≠some g) (xs++[x]) (cs++cx):=by
 have hlt:∀ g,v.ownBlock=some g→g < wr.heap.size:=fun g hg=>(hown.lt g hg).2
 have h1:StsC W0 (fun g=>B≤g∧v.ownBlock≠some g) xs cs:=(hX.under hb2 (zr _)).under hb3 (zr _);have h2:StsC W0 (fun g=>B≤g∧v.ownBlock≠some g) [x] cx:=(hX2.under hb3 (zr _)).weak fun g _ h=>⟨Nat.le_trans hB h,fun e=>by have:=hlt g e;omega⟩
 have h3:StsC W0 (fun g=>(B≤g∧v'.ownBlock≠some g)∧v.ownBlock≠some g) (xs++[x]) (cs++cx):=(h1.append h2).weak fun g hlt h=>⟨⟨h.1,fun e=>by
  rcases hat with hat | ⟨g',hg',hle⟩
  ·exact h.2 (hat ▸ e)
  ·rw [hg'] at e;cases e;omega⟩,h.2⟩
 exact (h3.grown hg (fun g e h=>h.2 e)).weak fun g _ h=>h.1
end Go.Proofs.YtoaojdobjinhfaaGreatDoor
