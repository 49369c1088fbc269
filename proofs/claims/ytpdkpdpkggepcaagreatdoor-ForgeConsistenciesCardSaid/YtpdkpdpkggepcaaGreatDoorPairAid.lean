import Derived.Test.YtpdkpdpkggepcaaGreatDoorHashAid
import Derived.Test.YtpdkpdpkggepcaaGreatDoorSameHashes
import Derived.Deep.MidRow
/- A slice literal of arrays by value: several rows. No program in sight but its types. -/
namespace Go.Proofs.YtpdkpdpkggepcaaGreatDoor
open Go.ChangeShapes Go.WideShapes Go.ChangeAt Go.RowKit
set_option linter.unusedVariables false
theorem fold_sets_at:∀ (l:List Value) (off k:Nat) (A:Array Value),off+k+l.length ≤ A.size →
 ((l.zipIdx k).foldl (fun cs p => cs.setIfInBounds (off+p.2) p.1) A).toList = A.toList.take (off+k) ++ l ++ A.toList.drop (off+k+l.length)
 | [],off,k,A,_ => by simp
 | v :: r,off,k,A,h => by
  have hk:off+k < A.size:=by simp at h;omega
  rw [List.zipIdx_cons,List.foldl_cons,fold_sets_at r off (k+1) _ (by simp at h ⊢;omega)]
  simp only [Array.toList_setIfInBounds]
  have hkl:(A.toList.take (off+k)).length = off+k:=by simp;omega
  have e1:(A.toList.set (off+k) v).take (off+(k+1)) = A.toList.take (off+k) ++ [v]:=by
   refine List.ext_getElem? fun i => ?_
   by_cases hi:i < off+k
   ·rw [List.getElem?_take_of_lt (by omega),List.getElem?_set_ne (by omega),List.getElem?_append_left (by simp;omega),List.getElem?_take_of_lt hi]
   ·by_cases he:i = off+k
    ·subst he;rw [List.getElem?_take_of_lt (by omega),List.getElem?_set_self (by simpa using hk),List.getElem?_append_right (by omega),hkl,Nat.sub_self];rfl
    ·rw [List.getElem?_eq_none (by simp;omega),List.getElem?_eq_none (by simp;omega)]
  have e2:(A.toList.set (off+k) v).drop (off+(k+1)+r.length) = A.toList.drop (off+k+(v :: r).length):=by
   rw [List.drop_set_of_lt (by omega)];simp;congr 1;omega
  rw [e1,e2];simp
def partsOf:Nat → List (Array Value) → List (Nat × Value)
 | _,[] => []
 | i,c :: r => (i,.agg c) :: partsOf (i+1) r
theorem fill_rows (n:Nat):∀ (rows:List (Array Value)) (i:Nat) (A:Array Value),(∀ c ∈ rows,c.size = n) → (i+rows.length) * n ≤ A.size →
 ∃ A',Instr.fill (fun i => some (i * n,n)) A (partsOf i rows) = some A' ∧ A'.toList = A.toList.take (i * n) ++ rows.flatMap Array.toList ++ A.toList.drop ((i+rows.length) * n)
 | [],i,A,_,_ => ⟨A,rfl,by simp⟩
 | c :: r,i,A,hs,hl => by
  have hc:=hs c (by simp)
  have hl' : i * n + n + r.length * n ≤ A.size := by simp at hl; have e : (i + (r.length + 1)) * n = i * n + n + r.length * n := by rw [Nat.add_mul, Nat.add_mul]; omega
                                                     omega
  obtain ⟨A1,hA1⟩:∃ A1,c.zipIdx.foldl (fun cs p => cs.setIfInBounds (i * n+p.2) p.1) A = A1:=⟨_,rfl⟩
  have h1:=fold_sets_at c.toList (i * n) 0 A (by simp;omega)
  rw [← Array.toList_zipIdx,Array.foldl_toList,hA1] at h1
  simp only [Nat.add_zero,Array.length_toList,hc] at h1
  have hA1s:A1.size = A.size:=by
   have:=congrArg List.length h1
   simp at this;omega
  have e1:(i+1+r.length) * n = i * n+n+r.length * n:=by rw [Nat.add_mul,Nat.add_mul];omega
  obtain ⟨A',h2,h3⟩:=fill_rows n r (i+1) A1 (fun x hx => hs x (by simp [hx])) (by rw [hA1s,e1];exact hl')
  refine ⟨A',?_,?_⟩
  ·rw [partsOf,Instr.fill]
   simp only [Value.cells,hc]
   rw [if_neg (by simp;omega)]
   have:c.zipIdx.foldl (fun cs (x:Value × Nat) => match x with | (c,j) => cs.setIfInBounds (i * n+j) c) A = A1:=hA1
   rw [this];exact h2
  ·rw [h3,h1]
   have ht:(A.toList.take (i * n) ++ c.toList).length = i * n+n:=by simp;omega
   rw [show (i+1) * n = (A.toList.take (i * n) ++ c.toList).length by rw [ht,Nat.add_mul];omega,List.take_left',e1]
   ·rw [List.drop_append,List.drop_eq_nil_of_le (by rw [ht];omega),List.nil_append,ht,List.drop_drop,List.flatMap_cons,List.length_cons]
    have e2:i * n+n+(i * n+n+r.length * n - (i * n+n)) = (i+(r.length+1)) * n:=by rw [Nat.add_mul,Nat.add_mul];omega
    rw [e2];simp
   ·rfl
/- Two hashes by value as one array: built, compared. No program in sight but its types. -/
theorem there_mid2 {w:World} {G m o k:Nat} (h:w.there G 0 m) (hk:o+k ≤ m):w.there G o k:=fun j hj => by
 have:=h (o+j) (by omega)
 rwa [Nat.zero_add] at this
theorem there_block2 {w w':World} {G o m:Nat} (h:w.there G o m) (hb:w'.heap[G]? = w.heap[G]?):w'.there G o m:=fun j hj =>
 ⟨by have:=(h j hj).1;rw [Option.isSome_iff_exists] at this ⊢;obtain ⟨v,hv⟩:=this;exact ⟨v,cell_block hb hv⟩,frozen_block hb (h j hj).2⟩
theorem wpList_load_mid_g2 {P:Program} {ops:Array Oper} {rest:List Oper} {op:Oper} {a:Act} {w:World} {Q:Exit → Act → World → Prop} (hw:Region.wanted op (yielded ops a.tmps) = true) (ty:TypeId) (x:Operand) (ho:op.op = .load ty x)
 (b o:Nat) (hx:a.eval x = .pointer (some ⟨b,o,none⟩)) (cs:List Value) (d:TypeDesc) (hc:w.rangeAt b o cs)
 (hu:P.underlying ty = some d) (hd:d.isRow = true) (hi:(P.info? ty).map (·.size) = some cs.length)
 (h:wpList P ops Q rest (a.put op.dst (.agg cs.toArray)) w):wpList P ops Q (op :: rest) a w :=
 wpList_step fun _ hK => by
  rw [if_pos hw]
  exact wp_load_mid ty x ho b o hx cs d hc hu hd hi (hK _ _ h)
def twoV (a b:Array Value):Array Value:=(a.toList ++ b.toList).toArray
theorem twoV_size {a b:Array Value} (ha:a.size = 32) (hb:b.size = 32):(twoV a b).size = 64:=by simp [twoV,ha,hb]
theorem built_pair (va vb:Array Value) (ha:va.size = 32) (hb:vb.size = 32) (w:World):(Instr.build 132 #[(0,.agg va),(1,.agg vb)]).run Tryz.prog w = .ok (.agg (twoV va vb)) w:=by
 obtain ⟨it,z,h1,h2,h3⟩:∃ it z,Tryz.prog.info? 132 = some it ∧ it.zero = some z ∧ z.cells.size = 64:=by
  have:(Tryz.prog.info? 132).map (fun i => i.zero.map (·.cells.size)) = some (some 64):=by kernel_rfl
  cases hq:Tryz.prog.info? 132 with
  | none => rw [hq] at this;cases this
  | some i =>
   rw [hq] at this
   cases hz:i.zero with
   | none => simp [hz] at this
   | some z => simp [hz] at this;exact ⟨i,z,rfl,hz,this⟩
 obtain ⟨ie,h4,h5⟩:∃ ie,Tryz.prog.info? 39 = some ie ∧ ie.size = 32:=by
  have:=info_hash
  cases hq:Tryz.prog.info? 39 with
  | none => rw [hq] at this;cases this
  | some i => rw [hq] at this;simp only [Option.map_some,Option.some.injEq,Prod.mk.injEq] at this;exact ⟨i,rfl,this.2.1⟩
 obtain ⟨A',h6,h7⟩:=fill_rows 32 [va,vb] 0 z.cells (by simp [ha,hb]) (by simp [h3])
 have h8:A' = twoV va vb:=by
  refine Array.ext' ?_
  rw [h7]
  have:z.cells.toList.drop ((0+[va,vb].length) * 32) = []:=List.drop_eq_nil_of_le (by simp [h3])
  rw [this];simp [twoV]
 refine run_build w 132 _ _ ?_
 unfold Program.built
 rw [h1,Tryz.underlying132]
 simp only [h2,h4,h5]
 rw [← h8,← h6];rfl
theorem eq_pair_d {P:Program} (d:Nat) (t e u:TypeId) (ht:P.underlying t = some (.array 2 e)) (he:P.underlying e = some (.array 32 u)) (hu:P.underlying u = some (.int .u8)) (hse:∀ w,(sizeOf e).run P w = .ok 32 w) (hsu:∀ w,(sizeOf u).run P w = .ok 1 w) (p q r s:List UInt8) (hp:p.length = 32) (hq:q.length = 32) (hr:r.length = 32) (hs:s.length = 32) (vp vq vr vs:Array Value) (ep:hv p = .agg vp) (eq:hv q = .agg vq) (er:hv r = .agg vr) (es:hv s = .agg vs) (w:World) :
 (Op.equalIn (d+3) t (.agg (twoV vp vq)) (.agg (twoV vr vs))).run P w = .ok (p == r && q == s) w:=by
 have fp:vp = (bytesV p).toArray:=by rw [hv] at ep;cases ep;rfl
 have fq:vq = (bytesV q).toArray:=by rw [hv] at eq;cases eq;rfl
 have fr:vr = (bytesV r).toArray:=by rw [hv] at er;cases er;rfl
 have fs:vs = (bytesV s).toArray:=by rw [hv] at es;cases es;rfl
 have hsz:=hse w
 have part1:∀ (a b:List UInt8),a.length = 32 → b.length = 32 → (part e (twoV (bytesV a).toArray (bytesV b).toArray) (0 * 32)).run P w = .ok (.agg (bytesV a).toArray) w:=fun a b ha hb => by
  have:(twoV (bytesV a).toArray (bytesV b).toArray).extract 0 32 = (bytesV a).toArray:=by
   refine Array.ext' ?_
   simp [twoV,bytesV_length,ha]
  simp [part,isAgg,run_underlying he,hsz,this]
 have part2:∀ (a b:List UInt8),a.length = 32 → b.length = 32 → (part e (twoV (bytesV a).toArray (bytesV b).toArray) (1 * 32)).run P w = .ok (.agg (bytesV b).toArray) w:=fun a b ha hb => by
  have:(twoV (bytesV a).toArray (bytesV b).toArray).extract 32 64 = (bytesV b).toArray:=by
   refine Array.ext' ?_
   simp [twoV,bytesV_length,ha]
   rw [List.take_of_length_le (by rw [bytesV_length,hb];exact Nat.le_refl _)]
  simp [part,isAgg,run_underlying he,hsz,this]
 have e1:∀ a b:List UInt8,a.length = 32 → b.length = 32 → (Op.equalIn (d+2) e (.agg (bytesV a).toArray) (.agg (bytesV b).toArray)).run P w = .ok (a == b) w:=fun a b ha hb =>
  run_equalIn_hash w d e u 32 he hu hsu a b ha hb
 rw [fp,fq,fr,fs,Op.equalIn]
 simp only [Sem.run_bind,run_underlying ht,Result.andThen_ok,hsz,Std.Legacy.Range.forIn_eq_forIn_range',Std.Legacy.Range.size,Nat.sub_zero,Nat.add_sub_cancel,Nat.div_one]
 simp only [List.range',List.forIn_cons,List.forIn_nil,Sem.run_bind,part1 p q hp hq,part1 r s hr hs,e1 p r hp hr,Result.andThen_ok]
 cases h1:(p == r) <;> cases h2:(q == s) <;> simp [h2,part2 p q hp hq,part2 r s hr hs,e1 q s hq hs]
theorem eq_pair (p q r s:List UInt8) (hp:p.length = 32) (hq:q.length = 32) (hr:r.length = 32) (hs:s.length = 32) (vp vq vr vs:Array Value) (ep:hv p = .agg vp) (eq:hv q = .agg vq) (er:hv r = .agg vr) (es:hv s = .agg vs) (w:World) :
 (Op.equalIn 10000 132 (.agg (twoV vp vq)) (.agg (twoV vr vs))).run Tryz.prog w = .ok (p == r && q == s) w :=
 eq_pair_d 9997 132 39 5 Tryz.underlying132 Tryz.underlying39 Tryz.underlying5 Tryz.sizeOf39 sizeOf_u8 p q r s hp hq hr hs vp vq vr vs ep eq er es w
end Go.Proofs.YtpdkpdpkggepcaaGreatDoor
