import Derived.RangeFuncRecord
import Derived.Lib.Hide
set_option linter.all false
namespace Go.Proofs.YtepacjkacjabbaaGreatDoor
open Go Go.RowKit
theorem ae{p:Prop}(h:p):Hid p:=Lib.hid h
theorem dM{α:Type}{D:Array α}{i:Nat}{a:α}(h:D[i]?=some a):∃h:i<D.size,D[i]=a:=Array.getElem?_eq_some_iff.1 h
theorem jc(w:World)(o:Obj):Below w.heap.size w (w.alloc o):=(Below.refl _ _).alloc (Nat.le_refl _) _
theorem gM(w:World)(o:Obj):(w.alloc o).heap[w.heap.size]?=some o:=World.alloc_heap_new w o
theorem _root_.Go.RowKit.Hid.o{p:Prop}(h:Hid p):p:=h.out
abbrev ag:=@Below.refl
abbrev af:=@Nat.le_refl
abbrev ai:=@Nat.le_trans
abbrev au:=@List.mem_cons_of_mem
abbrev nJ:=@List.mem_flatMap
abbrev ak:=@List.getElem_mem
abbrev aD:=@List.mem_cons_self
abbrev ax:=@List.map_cons
abbrev aI:=@Nat.lt_of_lt_of_le
abbrev ay:=@List.length_append
abbrev aF:=@List.length_cons
abbrev dF:=@List.mem_append
abbrev bF:=@List.mem_append_right
abbrev oI:=@List.mem_singleton
abbrev aC:=@decide_eq_true
abbrev aN:=@Below.heap_setCell
abbrev bE:=@List.mem_cons
abbrev bH:=@wpList_load_row
abbrev az:=@decide_eq_false
abbrev aH:=@Nat.zero_le
abbrev aM:=@World.cell?_of_block
abbrev aG:=@List.take_succ_eq_append_getElem
abbrev aK:=@wpList_store_row
abbrev cz:=@List.mem_append_left
abbrev aO:=@List.map_append
abbrev aP:=@List.append_nil
abbrev bB:=@Array.getElem?_eq_getElem
abbrev bg:=@Bool.and_eq_true
abbrev aY:=@List.append_assoc
abbrev bD:=@List.getElem?_cons_zero
abbrev aX:=@List.getElem?_eq_getElem
abbrev aL:=@results_cell_row
abbrev aU:=@decide_eq_true_eq
abbrev dE:=@World.putObj_heap_other
abbrev bu:=@List.not_mem_nil
abbrev bK:=@List.length_nil
abbrev dm:=@List.getElem?_cons_succ
abbrev dI:=@Nat.le_of_lt
abbrev bA:=@List.flatMap_cons
abbrev aW:=@bodyPost_ret
abbrev dw:=@List.map_map
abbrev bT:=@List.flatMap_append
abbrev fK:=@List.all_eq_true
abbrev cK:=@Array.getElem?_modify
abbrev bL:=@List.sum_cons
abbrev bN:=@Nat.lt_succ_self
abbrev dh:=@List.map_nil
abbrev di:=@World.size_alloc
abbrev dC:=@List.cons_append
abbrev bW:=@List.take_length
abbrev cZ:=@List.length_map
abbrev dK:=@Code.wp_mono
abbrev iL:=@Option.some.inj
abbrev bS:=@Nat.add_zero
abbrev ky:=@Bool.eq_iff_iff
abbrev dA:=@List.map_congr_left
abbrev iq:=@Option.getD_some
abbrev bM:=@setRow_heap
abbrev Ag:=@List.mem_map
abbrev dB:=@of_decide_eq_true
abbrev gJ:=@List.nil_append
abbrev fI:=@Nat.zero_add
abbrev dV:=@List.flatMap_nil
abbrev eZ:=@Below.heap_alloc
abbrev gm:=@List.getElem_of_mem
abbrev j6:=@List.nodup_append
abbrev fe:=@List.length_set
abbrev dR:=@List.drop_eq_getElem_cons
abbrev eP:=@size_setRow
abbrev fH:=@List.sum_nil
abbrev fA:=@List.take_append_drop
abbrev dX:=@Nat.not_lt_zero
abbrev fo:=@List.sum_append
abbrev dW:=@List.length_take
abbrev fM:=@List.getElem_set_self
abbrev iy:=@List.any_eq_true
abbrev iA:=@beq_eq_false_iff_ne
abbrev iK:=@List.getElem?_map
abbrev gD:=@Int.toNat_natCast
abbrev il:=@List.foldl_cons
abbrev fT:=@beq_iff_eq
abbrev iE:=@List.mem_map_of_mem
abbrev dQ:=@setRow_other
abbrev gU:=@Nat.le_add_right
abbrev jV:=@Int.eq_ofNat_of_zero_le
abbrev iC:=@List.getElem_set_ne
abbrev ma:=@Nat.le_succ
abbrev jB:=@Nat.eq_of_beq_eq_true
abbrev lU:=@ByteArray.size_append
abbrev fD:=@List.drop_length
abbrev iY:=@List.take_zero
abbrev iG:=@Nat.mul_le_mul_right
abbrev jm:=@List.mem_of_mem_take
abbrev gX:=@List.eq_nil_of_length_eq_zero
abbrev mZ:=@List.mem_of_getElem?
theorem UD{P:Nat->Prop}{f:Nat->Bool}(h:∀t,f t=true->P t)(e:(f 0&&f 1&&f 2&&f 3&&f 4&&f 5&&f 6&&f 7&&f 8&&f 9)=true):P 0/\P 1/\P 2/\P 3/\P 4/\P 5/\P 6/\P 7/\P 8/\P 9:=by simp only[Bool.and_eq_true]at e;simp_all
theorem Sk{P:Nat->Prop}{f:Nat->Bool}(h:∀t,f t=true->P t)(e:(f 10&&f 11&&f 12&&f 13&&f 14&&f 15&&f 16&&f 17&&f 18&&f 19)=true):P 10/\P 11/\P 12/\P 13/\P 14/\P 15/\P 16/\P 17/\P 18/\P 19:=by simp only[Bool.and_eq_true]at e;simp_all
theorem TR{P:Nat->Prop}{f:Nat->Bool}(h:∀t,f t=true->P t)(e:(f 20&&f 21&&f 22&&f 23&&f 24&&f 25&&f 26&&f 27&&f 28&&f 29)=true):P 20/\P 21/\P 22/\P 23/\P 24/\P 25/\P 26/\P 27/\P 28/\P 29:=by simp only[Bool.and_eq_true]at e;simp_all
theorem TS{P:Nat->Prop}{f:Nat->Bool}(h:∀t,f t=true->P t)(e:(f 30&&f 31&&f 32&&f 33&&f 34&&f 35&&f 36&&f 37&&f 38&&f 39)=true):P 30/\P 31/\P 32/\P 33/\P 34/\P 35/\P 36/\P 37/\P 38/\P 39:=by simp only[Bool.and_eq_true]at e;simp_all
theorem UZ{P:Nat->Prop}{f:Nat->Bool}(h:∀t,f t=true->P t)(e:(f 40&&f 41&&f 42&&f 43&&f 44&&f 45&&f 46&&f 47&&f 48&&f 49)=true):P 40/\P 41/\P 42/\P 43/\P 44/\P 45/\P 46/\P 47/\P 48/\P 49:=by simp only[Bool.and_eq_true]at e;simp_all
theorem TU{P:Nat->Prop}{f:Nat->Bool}(h:∀t,f t=true->P t)(e:(f 0&&f 1&&f 2&&f 3&&f 4)=true):P 0/\P 1/\P 2/\P 3/\P 4:=by simp only[Bool.and_eq_true]at e;simp_all
theorem U0{P:Nat->Prop}{f:Nat->Bool}(h:∀t,f t=true->P t)(e:(f 10&&f 11&&f 12&&f 13&&f 14)=true):P 10/\P 11/\P 12/\P 13/\P 14:=by simp only[Bool.and_eq_true]at e;simp_all
theorem U1{P:Nat->Prop}{f:Nat->Bool}(h:∀t,f t=true->P t)(e:(f 20&&f 21&&f 22&&f 23&&f 24)=true):P 20/\P 21/\P 22/\P 23/\P 24:=by simp only[Bool.and_eq_true]at e;simp_all
theorem U2{P:Nat->Prop}{f:Nat->Bool}(h:∀t,f t=true->P t)(e:(f 30&&f 31&&f 32&&f 33&&f 34)=true):P 30/\P 31/\P 32/\P 33/\P 34:=by simp only[Bool.and_eq_true]at e;simp_all
theorem UE{P:Nat->Prop}{f:Nat->Bool}(h:∀t,f t=true->P t)(e:(f 40&&f 41&&f 42&&f 43&&f 44)=true):P 40/\P 41/\P 42/\P 43/\P 44:=by simp only[Bool.and_eq_true]at e;simp_all
theorem U3{P:Nat->Prop}{f:Nat->Bool}(h:∀t,f t=true->P t)(e:(f 45&&f 46&&f 47&&f 48&&f 49)=true):P 45/\P 46/\P 47/\P 48/\P 49:=by simp only[Bool.and_eq_true]at e;simp_all
end Go.Proofs.YtepacjkacjabbaaGreatDoor
