/- The seat's type tables, as facts for simp. Written by wip/tab.py. -/
import Derived.Test.YtgienbcekgokiaaPm8
import Derived.Test.YtgienbcekgokiaaProg
import Derived.KernelRfl
namespace Go.Proofs.Ytgienbcekgokiaa
open Go Pm
theorem tb_tk_0 : tk Try.prog 0 = TK.other := by kernel_rfl
theorem tb_loadK_0 : loadK Try.prog 0 = some (false, 1) := by kernel_rfl
theorem tb_zeroK_0 : zeroK Try.prog 0 = some [Value.tuple { toList := [] }] := by kernel_rfl
theorem tb_bytesK_0 : bytesK Try.prog 0 = some 0 := by kernel_rfl
theorem tb_sliceElem_0 : sliceElem Try.prog 0 = none := by kernel_rfl
theorem tb_arrElem_0 : arrElem Try.prog 0 = none := by kernel_rfl
theorem tb_byteEl_0 : byteEl Try.prog 0 = false := by kernel_rfl
theorem tb_tk_1 : tk Try.prog 1 = TK.other := by kernel_rfl
theorem tb_loadK_1 : loadK Try.prog 1 = some (false, 1) := by kernel_rfl
theorem tb_zeroK_1 : zeroK Try.prog 1 = some [Value.nilFunc] := by kernel_rfl
theorem tb_bytesK_1 : bytesK Try.prog 1 = some 8 := by kernel_rfl
theorem tb_sliceElem_1 : sliceElem Try.prog 1 = none := by kernel_rfl
theorem tb_arrElem_1 : arrElem Try.prog 1 = none := by kernel_rfl
theorem tb_byteEl_1 : byteEl Try.prog 1 = false := by kernel_rfl
theorem tb_tk_2 : tk Try.prog 2 = TK.int IntKind.i64 := by kernel_rfl
theorem tb_loadK_2 : loadK Try.prog 2 = some (false, 1) := by kernel_rfl
theorem tb_zeroK_2 : zeroK Try.prog 2 = some [Value.int IntKind.i64 0] := by kernel_rfl
theorem tb_bytesK_2 : bytesK Try.prog 2 = some 8 := by kernel_rfl
theorem tb_byteEl_2 : byteEl Try.prog 2 = false := by kernel_rfl
theorem tb_tk_3 : tk Try.prog 3 = TK.int IntKind.i64 := by kernel_rfl
theorem tb_loadK_3 : loadK Try.prog 3 = some (false, 1) := by kernel_rfl
theorem tb_zeroK_3 : zeroK Try.prog 3 = some [Value.int IntKind.i64 0] := by kernel_rfl
theorem tb_bytesK_3 : bytesK Try.prog 3 = some 8 := by kernel_rfl
theorem tb_byteEl_3 : byteEl Try.prog 3 = false := by kernel_rfl
theorem tb_tk_4 : tk Try.prog 4 = TK.bool := by kernel_rfl
theorem tb_loadK_4 : loadK Try.prog 4 = some (false, 1) := by kernel_rfl
theorem tb_zeroK_4 : zeroK Try.prog 4 = some [Value.bool false] := by kernel_rfl
theorem tb_bytesK_4 : bytesK Try.prog 4 = some 1 := by kernel_rfl
theorem tb_byteEl_4 : byteEl Try.prog 4 = false := by kernel_rfl
theorem tb_tk_5 : tk Try.prog 5 = TK.int IntKind.u8 := by kernel_rfl
theorem tb_loadK_5 : loadK Try.prog 5 = some (false, 1) := by kernel_rfl
theorem tb_zeroK_5 : zeroK Try.prog 5 = some [Value.int IntKind.u8 0] := by kernel_rfl
theorem tb_bytesK_5 : bytesK Try.prog 5 = some 1 := by kernel_rfl
theorem tb_byteEl_5 : byteEl Try.prog 5 = false := by kernel_rfl
theorem tb_tk_6 : tk Try.prog 6 = TK.int IntKind.u8 := by kernel_rfl
theorem tb_loadK_6 : loadK Try.prog 6 = some (false, 1) := by kernel_rfl
theorem tb_zeroK_6 : zeroK Try.prog 6 = some [Value.int IntKind.u8 0] := by kernel_rfl
theorem tb_bytesK_6 : bytesK Try.prog 6 = some 1 := by kernel_rfl
theorem tb_byteEl_6 : byteEl Try.prog 6 = false := by kernel_rfl
theorem tb_tk_7 : tk Try.prog 7 = TK.other := by kernel_rfl
theorem tb_loadK_7 : loadK Try.prog 7 = some (true, 4) := by kernel_rfl
theorem tb_zeroK_7 : zeroK Try.prog 7 = some [Value.int IntKind.i64 0, Value.int IntKind.i64 0, Value.bool false, Value.int IntKind.u8 0] := by kernel_rfl
theorem tb_bytesK_7 : bytesK Try.prog 7 = some 24 := by kernel_rfl
theorem tb_sliceElem_7 : sliceElem Try.prog 7 = none := by kernel_rfl
theorem tb_arrElem_7 : arrElem Try.prog 7 = none := by kernel_rfl
theorem tb_placesK_7 : placesK Try.prog 7 = some [(0, 1), (1, 1), (2, 1), (3, 1)] := by kernel_rfl
theorem tb_byteEl_7 : byteEl Try.prog 7 = false := by kernel_rfl
theorem tb_flatK_7 : flatK Try.prog 7 = some [TypeDesc.int IntKind.i64, TypeDesc.int IntKind.i64, TypeDesc.bool, TypeDesc.int IntKind.u8] := by kernel_rfl
theorem tb_fieldK_7_0 : fieldK Try.prog 7 0 = some (0, false, 1) := by kernel_rfl
theorem tb_fieldK_7_1 : fieldK Try.prog 7 1 = some (1, false, 1) := by kernel_rfl
theorem tb_fieldK_7_2 : fieldK Try.prog 7 2 = some (2, false, 1) := by kernel_rfl
theorem tb_fieldK_7_3 : fieldK Try.prog 7 3 = some (3, false, 1) := by kernel_rfl
theorem tb_tk_8 : tk Try.prog 8 = TK.other := by kernel_rfl
theorem tb_loadK_8 : loadK Try.prog 8 = some (true, 4) := by kernel_rfl
theorem tb_zeroK_8 : zeroK Try.prog 8 = some [Value.int IntKind.i64 0, Value.int IntKind.i64 0, Value.bool false, Value.int IntKind.u8 0] := by kernel_rfl
theorem tb_bytesK_8 : bytesK Try.prog 8 = some 24 := by kernel_rfl
theorem tb_sliceElem_8 : sliceElem Try.prog 8 = none := by kernel_rfl
theorem tb_arrElem_8 : arrElem Try.prog 8 = none := by kernel_rfl
theorem tb_placesK_8 : placesK Try.prog 8 = some [(0, 1), (1, 1), (2, 1), (3, 1)] := by kernel_rfl
theorem tb_byteEl_8 : byteEl Try.prog 8 = false := by kernel_rfl
theorem tb_flatK_8 : flatK Try.prog 8 = some [TypeDesc.int IntKind.i64, TypeDesc.int IntKind.i64, TypeDesc.bool, TypeDesc.int IntKind.u8] := by kernel_rfl
theorem tb_fieldK_8_0 : fieldK Try.prog 8 0 = some (0, false, 1) := by kernel_rfl
theorem tb_fieldK_8_1 : fieldK Try.prog 8 1 = some (1, false, 1) := by kernel_rfl
theorem tb_fieldK_8_2 : fieldK Try.prog 8 2 = some (2, false, 1) := by kernel_rfl
theorem tb_fieldK_8_3 : fieldK Try.prog 8 3 = some (3, false, 1) := by kernel_rfl
theorem tb_tk_9 : tk Try.prog 9 = TK.str := by kernel_rfl
theorem tb_loadK_9 : loadK Try.prog 9 = some (false, 1) := by kernel_rfl
theorem tb_zeroK_9 : zeroK Try.prog 9 = some [Value.string ByteArray.empty] := by kernel_rfl
theorem tb_bytesK_9 : bytesK Try.prog 9 = some 16 := by kernel_rfl
theorem tb_byteEl_9 : byteEl Try.prog 9 = false := by kernel_rfl
theorem tb_arrLoad_9 : arrLoad Try.prog 9 = none := by kernel_rfl
theorem tb_tk_10 : tk Try.prog 10 = TK.str := by kernel_rfl
theorem tb_loadK_10 : loadK Try.prog 10 = some (false, 1) := by kernel_rfl
theorem tb_zeroK_10 : zeroK Try.prog 10 = some [Value.string ByteArray.empty] := by kernel_rfl
theorem tb_bytesK_10 : bytesK Try.prog 10 = some 16 := by kernel_rfl
theorem tb_byteEl_10 : byteEl Try.prog 10 = false := by kernel_rfl
theorem tb_arrLoad_10 : arrLoad Try.prog 10 = none := by kernel_rfl
theorem tb_tk_11 : tk Try.prog 11 = TK.str := by kernel_rfl
theorem tb_loadK_11 : loadK Try.prog 11 = some (false, 1) := by kernel_rfl
theorem tb_zeroK_11 : zeroK Try.prog 11 = some [Value.string ByteArray.empty] := by kernel_rfl
theorem tb_bytesK_11 : bytesK Try.prog 11 = some 16 := by kernel_rfl
theorem tb_byteEl_11 : byteEl Try.prog 11 = false := by kernel_rfl
theorem tb_arrLoad_11 : arrLoad Try.prog 11 = none := by kernel_rfl
theorem tb_tk_12 : tk Try.prog 12 = TK.int IntKind.u64 := by kernel_rfl
theorem tb_loadK_12 : loadK Try.prog 12 = some (false, 1) := by kernel_rfl
theorem tb_zeroK_12 : zeroK Try.prog 12 = some [Value.int IntKind.u64 0] := by kernel_rfl
theorem tb_bytesK_12 : bytesK Try.prog 12 = some 8 := by kernel_rfl
theorem tb_byteEl_12 : byteEl Try.prog 12 = false := by kernel_rfl
theorem tb_tk_13 : tk Try.prog 13 = TK.other := by kernel_rfl
theorem tb_loadK_13 : loadK Try.prog 13 = some (true, 2) := by kernel_rfl
theorem tb_zeroK_13 : zeroK Try.prog 13 = some [Value.string ByteArray.empty, Value.int IntKind.u64 0] := by kernel_rfl
theorem tb_bytesK_13 : bytesK Try.prog 13 = some 24 := by kernel_rfl
theorem tb_sliceElem_13 : sliceElem Try.prog 13 = none := by kernel_rfl
theorem tb_arrElem_13 : arrElem Try.prog 13 = none := by kernel_rfl
theorem tb_placesK_13 : placesK Try.prog 13 = some [(0, 1), (1, 1)] := by kernel_rfl
theorem tb_byteEl_13 : byteEl Try.prog 13 = false := by kernel_rfl
theorem tb_fieldK_13_0 : fieldK Try.prog 13 0 = some (0, false, 1) := by kernel_rfl
theorem tb_fieldK_13_1 : fieldK Try.prog 13 1 = some (1, false, 1) := by kernel_rfl
theorem tb_tk_14 : tk Try.prog 14 = TK.other := by kernel_rfl
theorem tb_loadK_14 : loadK Try.prog 14 = some (true, 2) := by kernel_rfl
theorem tb_zeroK_14 : zeroK Try.prog 14 = some [Value.string ByteArray.empty, Value.int IntKind.u64 0] := by kernel_rfl
theorem tb_bytesK_14 : bytesK Try.prog 14 = some 24 := by kernel_rfl
theorem tb_sliceElem_14 : sliceElem Try.prog 14 = none := by kernel_rfl
theorem tb_arrElem_14 : arrElem Try.prog 14 = none := by kernel_rfl
theorem tb_placesK_14 : placesK Try.prog 14 = some [(0, 1), (1, 1)] := by kernel_rfl
theorem tb_byteEl_14 : byteEl Try.prog 14 = false := by kernel_rfl
theorem tb_fieldK_14_0 : fieldK Try.prog 14 0 = some (0, false, 1) := by kernel_rfl
theorem tb_fieldK_14_1 : fieldK Try.prog 14 1 = some (1, false, 1) := by kernel_rfl
theorem tb_tk_15 : tk Try.prog 15 = TK.ptr := by kernel_rfl
theorem tb_loadK_15 : loadK Try.prog 15 = some (false, 1) := by kernel_rfl
theorem tb_zeroK_15 : zeroK Try.prog 15 = some [Value.pointer none] := by kernel_rfl
theorem tb_bytesK_15 : bytesK Try.prog 15 = some 8 := by kernel_rfl
theorem tb_sliceElem_15 : sliceElem Try.prog 15 = none := by kernel_rfl
theorem tb_arrElem_15 : arrElem Try.prog 15 = none := by kernel_rfl
theorem tb_byteEl_15 : byteEl Try.prog 15 = false := by kernel_rfl
theorem tb_tk_16 : tk Try.prog 16 = TK.ptr := by kernel_rfl
theorem tb_loadK_16 : loadK Try.prog 16 = some (false, 1) := by kernel_rfl
theorem tb_zeroK_16 : zeroK Try.prog 16 = some [Value.pointer none] := by kernel_rfl
theorem tb_bytesK_16 : bytesK Try.prog 16 = some 8 := by kernel_rfl
theorem tb_sliceElem_16 : sliceElem Try.prog 16 = none := by kernel_rfl
theorem tb_arrElem_16 : arrElem Try.prog 16 = none := by kernel_rfl
theorem tb_byteEl_16 : byteEl Try.prog 16 = false := by kernel_rfl
theorem tb_tk_17 : tk Try.prog 17 = TK.ptr := by kernel_rfl
theorem tb_loadK_17 : loadK Try.prog 17 = some (false, 1) := by kernel_rfl
theorem tb_zeroK_17 : zeroK Try.prog 17 = some [Value.pointer none] := by kernel_rfl
theorem tb_bytesK_17 : bytesK Try.prog 17 = some 8 := by kernel_rfl
theorem tb_sliceElem_17 : sliceElem Try.prog 17 = none := by kernel_rfl
theorem tb_arrElem_17 : arrElem Try.prog 17 = none := by kernel_rfl
theorem tb_byteEl_17 : byteEl Try.prog 17 = false := by kernel_rfl
theorem tb_tk_18 : tk Try.prog 18 = TK.other := by kernel_rfl
theorem tb_loadK_18 : loadK Try.prog 18 = some (true, 1) := by kernel_rfl
theorem tb_zeroK_18 : zeroK Try.prog 18 = some [Value.pointer none] := by kernel_rfl
theorem tb_bytesK_18 : bytesK Try.prog 18 = some 8 := by kernel_rfl
theorem tb_sliceElem_18 : sliceElem Try.prog 18 = none := by kernel_rfl
theorem tb_arrElem_18 : arrElem Try.prog 18 = none := by kernel_rfl
theorem tb_placesK_18 : placesK Try.prog 18 = some [(0, 1)] := by kernel_rfl
theorem tb_byteEl_18 : byteEl Try.prog 18 = false := by kernel_rfl
theorem tb_fieldK_18_0 : fieldK Try.prog 18 0 = some (0, false, 1) := by kernel_rfl
theorem tb_tk_19 : tk Try.prog 19 = TK.other := by kernel_rfl
theorem tb_loadK_19 : loadK Try.prog 19 = some (true, 1) := by kernel_rfl
theorem tb_zeroK_19 : zeroK Try.prog 19 = some [Value.pointer none] := by kernel_rfl
theorem tb_bytesK_19 : bytesK Try.prog 19 = some 8 := by kernel_rfl
theorem tb_sliceElem_19 : sliceElem Try.prog 19 = none := by kernel_rfl
theorem tb_arrElem_19 : arrElem Try.prog 19 = none := by kernel_rfl
theorem tb_placesK_19 : placesK Try.prog 19 = some [(0, 1)] := by kernel_rfl
theorem tb_byteEl_19 : byteEl Try.prog 19 = false := by kernel_rfl
theorem tb_fieldK_19_0 : fieldK Try.prog 19 0 = some (0, false, 1) := by kernel_rfl
theorem tb_tk_20 : tk Try.prog 20 = TK.other := by kernel_rfl
theorem tb_loadK_20 : loadK Try.prog 20 = some (false, 1) := by kernel_rfl
theorem tb_zeroK_20 : zeroK Try.prog 20 = some [Value.nilIface] := by kernel_rfl
theorem tb_bytesK_20 : bytesK Try.prog 20 = some 16 := by kernel_rfl
theorem tb_sliceElem_20 : sliceElem Try.prog 20 = none := by kernel_rfl
theorem tb_arrElem_20 : arrElem Try.prog 20 = none := by kernel_rfl
theorem tb_byteEl_20 : byteEl Try.prog 20 = false := by kernel_rfl
theorem tb_tk_21 : tk Try.prog 21 = TK.int IntKind.i32 := by kernel_rfl
theorem tb_loadK_21 : loadK Try.prog 21 = some (false, 1) := by kernel_rfl
theorem tb_zeroK_21 : zeroK Try.prog 21 = some [Value.int IntKind.i32 0] := by kernel_rfl
theorem tb_bytesK_21 : bytesK Try.prog 21 = some 4 := by kernel_rfl
theorem tb_byteEl_21 : byteEl Try.prog 21 = false := by kernel_rfl
theorem tb_tk_22 : tk Try.prog 22 = TK.slc := by kernel_rfl
theorem tb_loadK_22 : loadK Try.prog 22 = some (false, 1) := by kernel_rfl
theorem tb_zeroK_22 : zeroK Try.prog 22 = some [Value.slice none 0 0] := by kernel_rfl
theorem tb_bytesK_22 : bytesK Try.prog 22 = some 24 := by kernel_rfl
theorem tb_sliceElem_22 : sliceElem Try.prog 22 = some (9, 1) := by kernel_rfl
theorem tb_arrElem_22 : arrElem Try.prog 22 = none := by kernel_rfl
theorem tb_byteEl_22 : byteEl Try.prog 22 = false := by kernel_rfl
theorem tb_tk_23 : tk Try.prog 23 = TK.slc := by kernel_rfl
theorem tb_loadK_23 : loadK Try.prog 23 = some (false, 1) := by kernel_rfl
theorem tb_zeroK_23 : zeroK Try.prog 23 = some [Value.slice none 0 0] := by kernel_rfl
theorem tb_bytesK_23 : bytesK Try.prog 23 = some 24 := by kernel_rfl
theorem tb_sliceElem_23 : sliceElem Try.prog 23 = some (46, 3) := by kernel_rfl
theorem tb_arrElem_23 : arrElem Try.prog 23 = none := by kernel_rfl
theorem tb_byteEl_23 : byteEl Try.prog 23 = false := by kernel_rfl
theorem tb_tk_24 : tk Try.prog 24 = TK.other := by kernel_rfl
theorem tb_loadK_24 : loadK Try.prog 24 = some (true, 2) := by kernel_rfl
theorem tb_zeroK_24 : zeroK Try.prog 24 = some [Value.slice none 0 0, Value.slice none 0 0] := by kernel_rfl
theorem tb_bytesK_24 : bytesK Try.prog 24 = some 48 := by kernel_rfl
theorem tb_sliceElem_24 : sliceElem Try.prog 24 = none := by kernel_rfl
theorem tb_arrElem_24 : arrElem Try.prog 24 = none := by kernel_rfl
theorem tb_placesK_24 : placesK Try.prog 24 = some [(0, 1), (1, 1)] := by kernel_rfl
theorem tb_byteEl_24 : byteEl Try.prog 24 = false := by kernel_rfl
theorem tb_fieldK_24_0 : fieldK Try.prog 24 0 = some (0, false, 1) := by kernel_rfl
theorem tb_fieldK_24_1 : fieldK Try.prog 24 1 = some (1, false, 1) := by kernel_rfl
theorem tb_tk_25 : tk Try.prog 25 = TK.other := by kernel_rfl
theorem tb_loadK_25 : loadK Try.prog 25 = some (true, 2) := by kernel_rfl
theorem tb_zeroK_25 : zeroK Try.prog 25 = some [Value.slice none 0 0, Value.slice none 0 0] := by kernel_rfl
theorem tb_bytesK_25 : bytesK Try.prog 25 = some 48 := by kernel_rfl
theorem tb_sliceElem_25 : sliceElem Try.prog 25 = none := by kernel_rfl
theorem tb_arrElem_25 : arrElem Try.prog 25 = none := by kernel_rfl
theorem tb_placesK_25 : placesK Try.prog 25 = some [(0, 1), (1, 1)] := by kernel_rfl
theorem tb_byteEl_25 : byteEl Try.prog 25 = false := by kernel_rfl
theorem tb_fieldK_25_0 : fieldK Try.prog 25 0 = some (0, false, 1) := by kernel_rfl
theorem tb_fieldK_25_1 : fieldK Try.prog 25 1 = some (1, false, 1) := by kernel_rfl
theorem tb_tk_26 : tk Try.prog 26 = TK.other := by kernel_rfl
theorem tb_loadK_26 : loadK Try.prog 26 = some (false, 1) := by kernel_rfl
theorem tb_zeroK_26 : zeroK Try.prog 26 = some [Value.nilFunc] := by kernel_rfl
theorem tb_bytesK_26 : bytesK Try.prog 26 = some 8 := by kernel_rfl
theorem tb_sliceElem_26 : sliceElem Try.prog 26 = none := by kernel_rfl
theorem tb_arrElem_26 : arrElem Try.prog 26 = none := by kernel_rfl
theorem tb_byteEl_26 : byteEl Try.prog 26 = false := by kernel_rfl
theorem tb_tk_27 : tk Try.prog 27 = TK.other := by kernel_rfl
theorem tb_loadK_27 : loadK Try.prog 27 = some (false, 1) := by kernel_rfl
theorem tb_zeroK_27 : zeroK Try.prog 27 = some [Value.nilFunc] := by kernel_rfl
theorem tb_bytesK_27 : bytesK Try.prog 27 = some 8 := by kernel_rfl
theorem tb_sliceElem_27 : sliceElem Try.prog 27 = none := by kernel_rfl
theorem tb_arrElem_27 : arrElem Try.prog 27 = none := by kernel_rfl
theorem tb_byteEl_27 : byteEl Try.prog 27 = false := by kernel_rfl
theorem tb_tk_28 : tk Try.prog 28 = TK.other := by kernel_rfl
theorem tb_loadK_28 : loadK Try.prog 28 = some (false, 1) := by kernel_rfl
theorem tb_zeroK_28 : zeroK Try.prog 28 = some [Value.nilFunc] := by kernel_rfl
theorem tb_bytesK_28 : bytesK Try.prog 28 = some 8 := by kernel_rfl
theorem tb_sliceElem_28 : sliceElem Try.prog 28 = none := by kernel_rfl
theorem tb_arrElem_28 : arrElem Try.prog 28 = none := by kernel_rfl
theorem tb_byteEl_28 : byteEl Try.prog 28 = false := by kernel_rfl
theorem tb_tk_29 : tk Try.prog 29 = TK.int IntKind.i64 := by kernel_rfl
theorem tb_loadK_29 : loadK Try.prog 29 = some (false, 1) := by kernel_rfl
theorem tb_zeroK_29 : zeroK Try.prog 29 = some [Value.int IntKind.i64 0] := by kernel_rfl
theorem tb_bytesK_29 : bytesK Try.prog 29 = some 8 := by kernel_rfl
theorem tb_byteEl_29 : byteEl Try.prog 29 = false := by kernel_rfl
theorem tb_tk_30 : tk Try.prog 30 = TK.other := by kernel_rfl
theorem tb_loadK_30 : loadK Try.prog 30 = some (false, 1) := by kernel_rfl
theorem tb_zeroK_30 : zeroK Try.prog 30 = some [Value.tuple { toList := [Value.agg { toList := [Value.slice none 0 0, Value.slice none 0 0] }, Value.int IntKind.i64 0] }] := by kernel_rfl
theorem tb_bytesK_30 : bytesK Try.prog 30 = some 0 := by kernel_rfl
theorem tb_sliceElem_30 : sliceElem Try.prog 30 = none := by kernel_rfl
theorem tb_arrElem_30 : arrElem Try.prog 30 = none := by kernel_rfl
theorem tb_byteEl_30 : byteEl Try.prog 30 = false := by kernel_rfl
theorem tb_tk_31 : tk Try.prog 31 = TK.other := by kernel_rfl
theorem tb_loadK_31 : loadK Try.prog 31 = some (false, 1) := by kernel_rfl
theorem tb_zeroK_31 : zeroK Try.prog 31 = some [Value.nilFunc] := by kernel_rfl
theorem tb_bytesK_31 : bytesK Try.prog 31 = some 8 := by kernel_rfl
theorem tb_sliceElem_31 : sliceElem Try.prog 31 = none := by kernel_rfl
theorem tb_arrElem_31 : arrElem Try.prog 31 = none := by kernel_rfl
theorem tb_byteEl_31 : byteEl Try.prog 31 = false := by kernel_rfl
theorem tb_tk_32 : tk Try.prog 32 = TK.other := by kernel_rfl
theorem tb_loadK_32 : loadK Try.prog 32 = some (false, 1) := by kernel_rfl
theorem tb_zeroK_32 : zeroK Try.prog 32 = some [Value.tuple { toList := [Value.agg { toList := [Value.slice none 0 0, Value.slice none 0 0] }, Value.int IntKind.i64 0] }] := by kernel_rfl
theorem tb_bytesK_32 : bytesK Try.prog 32 = some 0 := by kernel_rfl
theorem tb_sliceElem_32 : sliceElem Try.prog 32 = none := by kernel_rfl
theorem tb_arrElem_32 : arrElem Try.prog 32 = none := by kernel_rfl
theorem tb_byteEl_32 : byteEl Try.prog 32 = false := by kernel_rfl
theorem tb_tk_33 : tk Try.prog 33 = TK.other := by kernel_rfl
theorem tb_loadK_33 : loadK Try.prog 33 = some (false, 1) := by kernel_rfl
theorem tb_zeroK_33 : zeroK Try.prog 33 = some [Value.nilFunc] := by kernel_rfl
theorem tb_bytesK_33 : bytesK Try.prog 33 = some 8 := by kernel_rfl
theorem tb_sliceElem_33 : sliceElem Try.prog 33 = none := by kernel_rfl
theorem tb_arrElem_33 : arrElem Try.prog 33 = none := by kernel_rfl
theorem tb_byteEl_33 : byteEl Try.prog 33 = false := by kernel_rfl
theorem tb_tk_34 : tk Try.prog 34 = TK.other := by kernel_rfl
theorem tb_loadK_34 : loadK Try.prog 34 = some (false, 1) := by kernel_rfl
theorem tb_zeroK_34 : zeroK Try.prog 34 = some [Value.tuple { toList := [Value.slice none 0 0, Value.int IntKind.i64 0] }] := by kernel_rfl
theorem tb_bytesK_34 : bytesK Try.prog 34 = some 0 := by kernel_rfl
theorem tb_sliceElem_34 : sliceElem Try.prog 34 = none := by kernel_rfl
theorem tb_arrElem_34 : arrElem Try.prog 34 = none := by kernel_rfl
theorem tb_byteEl_34 : byteEl Try.prog 34 = false := by kernel_rfl
theorem tb_tk_35 : tk Try.prog 35 = TK.other := by kernel_rfl
theorem tb_loadK_35 : loadK Try.prog 35 = some (false, 1) := by kernel_rfl
theorem tb_zeroK_35 : zeroK Try.prog 35 = some [Value.nilFunc] := by kernel_rfl
theorem tb_bytesK_35 : bytesK Try.prog 35 = some 8 := by kernel_rfl
theorem tb_sliceElem_35 : sliceElem Try.prog 35 = none := by kernel_rfl
theorem tb_arrElem_35 : arrElem Try.prog 35 = none := by kernel_rfl
theorem tb_byteEl_35 : byteEl Try.prog 35 = false := by kernel_rfl
theorem tb_tk_36 : tk Try.prog 36 = TK.other := by kernel_rfl
theorem tb_loadK_36 : loadK Try.prog 36 = some (false, 1) := by kernel_rfl
theorem tb_zeroK_36 : zeroK Try.prog 36 = some [Value.tuple { toList := [Value.slice none 0 0, Value.int IntKind.i64 0] }] := by kernel_rfl
theorem tb_bytesK_36 : bytesK Try.prog 36 = some 0 := by kernel_rfl
theorem tb_sliceElem_36 : sliceElem Try.prog 36 = none := by kernel_rfl
theorem tb_arrElem_36 : arrElem Try.prog 36 = none := by kernel_rfl
theorem tb_byteEl_36 : byteEl Try.prog 36 = false := by kernel_rfl
theorem tb_tk_37 : tk Try.prog 37 = TK.other := by kernel_rfl
theorem tb_loadK_37 : loadK Try.prog 37 = some (false, 1) := by kernel_rfl
theorem tb_zeroK_37 : zeroK Try.prog 37 = some [Value.nilFunc] := by kernel_rfl
theorem tb_bytesK_37 : bytesK Try.prog 37 = some 8 := by kernel_rfl
theorem tb_sliceElem_37 : sliceElem Try.prog 37 = none := by kernel_rfl
theorem tb_arrElem_37 : arrElem Try.prog 37 = none := by kernel_rfl
theorem tb_byteEl_37 : byteEl Try.prog 37 = false := by kernel_rfl
theorem tb_tk_38 : tk Try.prog 38 = TK.other := by kernel_rfl
theorem tb_loadK_38 : loadK Try.prog 38 = some (false, 1) := by kernel_rfl
theorem tb_zeroK_38 : zeroK Try.prog 38 = some [Value.nilFunc] := by kernel_rfl
theorem tb_bytesK_38 : bytesK Try.prog 38 = some 8 := by kernel_rfl
theorem tb_sliceElem_38 : sliceElem Try.prog 38 = none := by kernel_rfl
theorem tb_arrElem_38 : arrElem Try.prog 38 = none := by kernel_rfl
theorem tb_byteEl_38 : byteEl Try.prog 38 = false := by kernel_rfl
theorem tb_tk_39 : tk Try.prog 39 = TK.other := by kernel_rfl
theorem tb_loadK_39 : loadK Try.prog 39 = some (false, 1) := by kernel_rfl
theorem tb_zeroK_39 : zeroK Try.prog 39 = some [Value.nilFunc] := by kernel_rfl
theorem tb_bytesK_39 : bytesK Try.prog 39 = some 8 := by kernel_rfl
theorem tb_sliceElem_39 : sliceElem Try.prog 39 = none := by kernel_rfl
theorem tb_arrElem_39 : arrElem Try.prog 39 = none := by kernel_rfl
theorem tb_byteEl_39 : byteEl Try.prog 39 = false := by kernel_rfl
theorem tb_tk_40 : tk Try.prog 40 = TK.other := by kernel_rfl
theorem tb_loadK_40 : loadK Try.prog 40 = some (false, 1) := by kernel_rfl
theorem tb_zeroK_40 : zeroK Try.prog 40 = some [Value.nilFunc] := by kernel_rfl
theorem tb_bytesK_40 : bytesK Try.prog 40 = some 8 := by kernel_rfl
theorem tb_sliceElem_40 : sliceElem Try.prog 40 = none := by kernel_rfl
theorem tb_arrElem_40 : arrElem Try.prog 40 = none := by kernel_rfl
theorem tb_byteEl_40 : byteEl Try.prog 40 = false := by kernel_rfl
theorem tb_tk_41 : tk Try.prog 41 = TK.other := by kernel_rfl
theorem tb_loadK_41 : loadK Try.prog 41 = some (false, 1) := by kernel_rfl
theorem tb_zeroK_41 : zeroK Try.prog 41 = some [Value.nilFunc] := by kernel_rfl
theorem tb_bytesK_41 : bytesK Try.prog 41 = some 8 := by kernel_rfl
theorem tb_sliceElem_41 : sliceElem Try.prog 41 = none := by kernel_rfl
theorem tb_arrElem_41 : arrElem Try.prog 41 = none := by kernel_rfl
theorem tb_byteEl_41 : byteEl Try.prog 41 = false := by kernel_rfl
theorem tb_tk_42 : tk Try.prog 42 = TK.other := by kernel_rfl
theorem tb_loadK_42 : loadK Try.prog 42 = some (false, 1) := by kernel_rfl
theorem tb_zeroK_42 : zeroK Try.prog 42 = some [Value.nilFunc] := by kernel_rfl
theorem tb_bytesK_42 : bytesK Try.prog 42 = some 8 := by kernel_rfl
theorem tb_sliceElem_42 : sliceElem Try.prog 42 = none := by kernel_rfl
theorem tb_arrElem_42 : arrElem Try.prog 42 = none := by kernel_rfl
theorem tb_byteEl_42 : byteEl Try.prog 42 = false := by kernel_rfl
theorem tb_tk_43 : tk Try.prog 43 = TK.other := by kernel_rfl
theorem tb_loadK_43 : loadK Try.prog 43 = some (false, 1) := by kernel_rfl
theorem tb_zeroK_43 : zeroK Try.prog 43 = some [Value.nilFunc] := by kernel_rfl
theorem tb_bytesK_43 : bytesK Try.prog 43 = some 8 := by kernel_rfl
theorem tb_sliceElem_43 : sliceElem Try.prog 43 = none := by kernel_rfl
theorem tb_arrElem_43 : arrElem Try.prog 43 = none := by kernel_rfl
theorem tb_byteEl_43 : byteEl Try.prog 43 = false := by kernel_rfl
theorem tb_tk_44 : tk Try.prog 44 = TK.slc := by kernel_rfl
theorem tb_loadK_44 : loadK Try.prog 44 = some (false, 1) := by kernel_rfl
theorem tb_zeroK_44 : zeroK Try.prog 44 = some [Value.slice none 0 0] := by kernel_rfl
theorem tb_bytesK_44 : bytesK Try.prog 44 = some 24 := by kernel_rfl
theorem tb_sliceElem_44 : sliceElem Try.prog 44 = some (25, 2) := by kernel_rfl
theorem tb_arrElem_44 : arrElem Try.prog 44 = none := by kernel_rfl
theorem tb_byteEl_44 : byteEl Try.prog 44 = false := by kernel_rfl
theorem tb_tk_45 : tk Try.prog 45 = TK.other := by kernel_rfl
theorem tb_loadK_45 : loadK Try.prog 45 = some (true, 3) := by kernel_rfl
theorem tb_zeroK_45 : zeroK Try.prog 45 = some [Value.int IntKind.i64 0, Value.int IntKind.i64 0, Value.slice none 0 0] := by kernel_rfl
theorem tb_bytesK_45 : bytesK Try.prog 45 = some 40 := by kernel_rfl
theorem tb_sliceElem_45 : sliceElem Try.prog 45 = none := by kernel_rfl
theorem tb_arrElem_45 : arrElem Try.prog 45 = none := by kernel_rfl
theorem tb_placesK_45 : placesK Try.prog 45 = some [(0, 1), (1, 1), (2, 1)] := by kernel_rfl
theorem tb_byteEl_45 : byteEl Try.prog 45 = false := by kernel_rfl
theorem tb_fieldK_45_0 : fieldK Try.prog 45 0 = some (0, false, 1) := by kernel_rfl
theorem tb_fieldK_45_1 : fieldK Try.prog 45 1 = some (1, false, 1) := by kernel_rfl
theorem tb_fieldK_45_2 : fieldK Try.prog 45 2 = some (2, false, 1) := by kernel_rfl
theorem tb_tk_46 : tk Try.prog 46 = TK.other := by kernel_rfl
theorem tb_loadK_46 : loadK Try.prog 46 = some (true, 3) := by kernel_rfl
theorem tb_zeroK_46 : zeroK Try.prog 46 = some [Value.int IntKind.i64 0, Value.int IntKind.i64 0, Value.slice none 0 0] := by kernel_rfl
theorem tb_bytesK_46 : bytesK Try.prog 46 = some 40 := by kernel_rfl
theorem tb_sliceElem_46 : sliceElem Try.prog 46 = none := by kernel_rfl
theorem tb_arrElem_46 : arrElem Try.prog 46 = none := by kernel_rfl
theorem tb_placesK_46 : placesK Try.prog 46 = some [(0, 1), (1, 1), (2, 1)] := by kernel_rfl
theorem tb_byteEl_46 : byteEl Try.prog 46 = false := by kernel_rfl
theorem tb_fieldK_46_0 : fieldK Try.prog 46 0 = some (0, false, 1) := by kernel_rfl
theorem tb_fieldK_46_1 : fieldK Try.prog 46 1 = some (1, false, 1) := by kernel_rfl
theorem tb_fieldK_46_2 : fieldK Try.prog 46 2 = some (2, false, 1) := by kernel_rfl
theorem tb_tk_47 : tk Try.prog 47 = TK.other := by kernel_rfl
theorem tb_loadK_47 : loadK Try.prog 47 = some (false, 1) := by kernel_rfl
theorem tb_zeroK_47 : zeroK Try.prog 47 = some [Value.nilFunc] := by kernel_rfl
theorem tb_bytesK_47 : bytesK Try.prog 47 = some 8 := by kernel_rfl
theorem tb_sliceElem_47 : sliceElem Try.prog 47 = none := by kernel_rfl
theorem tb_arrElem_47 : arrElem Try.prog 47 = none := by kernel_rfl
theorem tb_byteEl_47 : byteEl Try.prog 47 = false := by kernel_rfl
theorem tb_tk_48 : tk Try.prog 48 = TK.other := by kernel_rfl
theorem tb_loadK_48 : loadK Try.prog 48 = some (false, 1) := by kernel_rfl
theorem tb_zeroK_48 : zeroK Try.prog 48 = some [Value.tuple { toList := [Value.string ByteArray.empty, Value.int IntKind.i64 0] }] := by kernel_rfl
theorem tb_bytesK_48 : bytesK Try.prog 48 = some 0 := by kernel_rfl
theorem tb_sliceElem_48 : sliceElem Try.prog 48 = none := by kernel_rfl
theorem tb_arrElem_48 : arrElem Try.prog 48 = none := by kernel_rfl
theorem tb_byteEl_48 : byteEl Try.prog 48 = false := by kernel_rfl
theorem tb_tk_49 : tk Try.prog 49 = TK.other := by kernel_rfl
theorem tb_loadK_49 : loadK Try.prog 49 = some (false, 1) := by kernel_rfl
theorem tb_zeroK_49 : zeroK Try.prog 49 = some [Value.nilFunc] := by kernel_rfl
theorem tb_bytesK_49 : bytesK Try.prog 49 = some 8 := by kernel_rfl
theorem tb_sliceElem_49 : sliceElem Try.prog 49 = none := by kernel_rfl
theorem tb_arrElem_49 : arrElem Try.prog 49 = none := by kernel_rfl
theorem tb_byteEl_49 : byteEl Try.prog 49 = false := by kernel_rfl
theorem tb_tk_50 : tk Try.prog 50 = TK.other := by kernel_rfl
theorem tb_loadK_50 : loadK Try.prog 50 = some (false, 1) := by kernel_rfl
theorem tb_zeroK_50 : zeroK Try.prog 50 = some [Value.tuple { toList := [Value.string ByteArray.empty, Value.int IntKind.i64 0] }] := by kernel_rfl
theorem tb_bytesK_50 : bytesK Try.prog 50 = some 0 := by kernel_rfl
theorem tb_sliceElem_50 : sliceElem Try.prog 50 = none := by kernel_rfl
theorem tb_arrElem_50 : arrElem Try.prog 50 = none := by kernel_rfl
theorem tb_byteEl_50 : byteEl Try.prog 50 = false := by kernel_rfl
theorem tb_tk_51 : tk Try.prog 51 = TK.other := by kernel_rfl
theorem tb_loadK_51 : loadK Try.prog 51 = some (false, 1) := by kernel_rfl
theorem tb_zeroK_51 : zeroK Try.prog 51 = some [Value.nilFunc] := by kernel_rfl
theorem tb_bytesK_51 : bytesK Try.prog 51 = some 8 := by kernel_rfl
theorem tb_sliceElem_51 : sliceElem Try.prog 51 = none := by kernel_rfl
theorem tb_arrElem_51 : arrElem Try.prog 51 = none := by kernel_rfl
theorem tb_byteEl_51 : byteEl Try.prog 51 = false := by kernel_rfl
theorem tb_tk_52 : tk Try.prog 52 = TK.other := by kernel_rfl
theorem tb_loadK_52 : loadK Try.prog 52 = some (false, 1) := by kernel_rfl
theorem tb_zeroK_52 : zeroK Try.prog 52 = some [Value.tuple { toList := [Value.slice none 0 0, Value.int IntKind.i64 0, Value.int IntKind.i64 0] }] := by kernel_rfl
theorem tb_bytesK_52 : bytesK Try.prog 52 = some 0 := by kernel_rfl
theorem tb_sliceElem_52 : sliceElem Try.prog 52 = none := by kernel_rfl
theorem tb_arrElem_52 : arrElem Try.prog 52 = none := by kernel_rfl
theorem tb_byteEl_52 : byteEl Try.prog 52 = false := by kernel_rfl
theorem tb_tk_53 : tk Try.prog 53 = TK.other := by kernel_rfl
theorem tb_loadK_53 : loadK Try.prog 53 = some (false, 1) := by kernel_rfl
theorem tb_zeroK_53 : zeroK Try.prog 53 = some [Value.nilFunc] := by kernel_rfl
theorem tb_bytesK_53 : bytesK Try.prog 53 = some 8 := by kernel_rfl
theorem tb_sliceElem_53 : sliceElem Try.prog 53 = none := by kernel_rfl
theorem tb_arrElem_53 : arrElem Try.prog 53 = none := by kernel_rfl
theorem tb_byteEl_53 : byteEl Try.prog 53 = false := by kernel_rfl
theorem tb_tk_54 : tk Try.prog 54 = TK.other := by kernel_rfl
theorem tb_loadK_54 : loadK Try.prog 54 = some (false, 1) := by kernel_rfl
theorem tb_zeroK_54 : zeroK Try.prog 54 = some [Value.tuple { toList := [Value.slice none 0 0, Value.int IntKind.i64 0, Value.int IntKind.i64 0] }] := by kernel_rfl
theorem tb_bytesK_54 : bytesK Try.prog 54 = some 0 := by kernel_rfl
theorem tb_sliceElem_54 : sliceElem Try.prog 54 = none := by kernel_rfl
theorem tb_arrElem_54 : arrElem Try.prog 54 = none := by kernel_rfl
theorem tb_byteEl_54 : byteEl Try.prog 54 = false := by kernel_rfl
theorem tb_tk_55 : tk Try.prog 55 = TK.other := by kernel_rfl
theorem tb_loadK_55 : loadK Try.prog 55 = some (false, 1) := by kernel_rfl
theorem tb_zeroK_55 : zeroK Try.prog 55 = some [Value.nilFunc] := by kernel_rfl
theorem tb_bytesK_55 : bytesK Try.prog 55 = some 8 := by kernel_rfl
theorem tb_sliceElem_55 : sliceElem Try.prog 55 = none := by kernel_rfl
theorem tb_arrElem_55 : arrElem Try.prog 55 = none := by kernel_rfl
theorem tb_byteEl_55 : byteEl Try.prog 55 = false := by kernel_rfl
theorem tb_tk_56 : tk Try.prog 56 = TK.other := by kernel_rfl
theorem tb_loadK_56 : loadK Try.prog 56 = some (false, 1) := by kernel_rfl
theorem tb_zeroK_56 : zeroK Try.prog 56 = some [Value.nilFunc] := by kernel_rfl
theorem tb_bytesK_56 : bytesK Try.prog 56 = some 8 := by kernel_rfl
theorem tb_sliceElem_56 : sliceElem Try.prog 56 = none := by kernel_rfl
theorem tb_arrElem_56 : arrElem Try.prog 56 = none := by kernel_rfl
theorem tb_byteEl_56 : byteEl Try.prog 56 = false := by kernel_rfl
theorem tb_tk_57 : tk Try.prog 57 = TK.other := by kernel_rfl
theorem tb_loadK_57 : loadK Try.prog 57 = some (false, 1) := by kernel_rfl
theorem tb_zeroK_57 : zeroK Try.prog 57 = some [Value.nilFunc] := by kernel_rfl
theorem tb_bytesK_57 : bytesK Try.prog 57 = some 8 := by kernel_rfl
theorem tb_sliceElem_57 : sliceElem Try.prog 57 = none := by kernel_rfl
theorem tb_arrElem_57 : arrElem Try.prog 57 = none := by kernel_rfl
theorem tb_byteEl_57 : byteEl Try.prog 57 = false := by kernel_rfl
theorem tb_tk_58 : tk Try.prog 58 = TK.other := by kernel_rfl
theorem tb_loadK_58 : loadK Try.prog 58 = some (false, 1) := by kernel_rfl
theorem tb_zeroK_58 : zeroK Try.prog 58 = some [Value.nilFunc] := by kernel_rfl
theorem tb_bytesK_58 : bytesK Try.prog 58 = some 8 := by kernel_rfl
theorem tb_sliceElem_58 : sliceElem Try.prog 58 = none := by kernel_rfl
theorem tb_arrElem_58 : arrElem Try.prog 58 = none := by kernel_rfl
theorem tb_byteEl_58 : byteEl Try.prog 58 = false := by kernel_rfl
theorem tb_tk_59 : tk Try.prog 59 = TK.other := by kernel_rfl
theorem tb_loadK_59 : loadK Try.prog 59 = some (false, 1) := by kernel_rfl
theorem tb_zeroK_59 : zeroK Try.prog 59 = some [Value.nilFunc] := by kernel_rfl
theorem tb_bytesK_59 : bytesK Try.prog 59 = some 8 := by kernel_rfl
theorem tb_sliceElem_59 : sliceElem Try.prog 59 = none := by kernel_rfl
theorem tb_arrElem_59 : arrElem Try.prog 59 = none := by kernel_rfl
theorem tb_byteEl_59 : byteEl Try.prog 59 = false := by kernel_rfl
theorem tb_tk_60 : tk Try.prog 60 = TK.other := by kernel_rfl
theorem tb_loadK_60 : loadK Try.prog 60 = some (false, 1) := by kernel_rfl
theorem tb_zeroK_60 : zeroK Try.prog 60 = some [Value.nilFunc] := by kernel_rfl
theorem tb_bytesK_60 : bytesK Try.prog 60 = some 8 := by kernel_rfl
theorem tb_sliceElem_60 : sliceElem Try.prog 60 = none := by kernel_rfl
theorem tb_arrElem_60 : arrElem Try.prog 60 = none := by kernel_rfl
theorem tb_byteEl_60 : byteEl Try.prog 60 = false := by kernel_rfl
theorem tb_tk_61 : tk Try.prog 61 = TK.other := by kernel_rfl
theorem tb_loadK_61 : loadK Try.prog 61 = some (false, 1) := by kernel_rfl
theorem tb_zeroK_61 : zeroK Try.prog 61 = some [Value.nilFunc] := by kernel_rfl
theorem tb_bytesK_61 : bytesK Try.prog 61 = some 8 := by kernel_rfl
theorem tb_sliceElem_61 : sliceElem Try.prog 61 = none := by kernel_rfl
theorem tb_arrElem_61 : arrElem Try.prog 61 = none := by kernel_rfl
theorem tb_byteEl_61 : byteEl Try.prog 61 = false := by kernel_rfl
theorem tb_tk_62 : tk Try.prog 62 = TK.ptr := by kernel_rfl
theorem tb_loadK_62 : loadK Try.prog 62 = some (false, 1) := by kernel_rfl
theorem tb_zeroK_62 : zeroK Try.prog 62 = some [Value.pointer none] := by kernel_rfl
theorem tb_bytesK_62 : bytesK Try.prog 62 = some 8 := by kernel_rfl
theorem tb_sliceElem_62 : sliceElem Try.prog 62 = none := by kernel_rfl
theorem tb_arrElem_62 : arrElem Try.prog 62 = none := by kernel_rfl
theorem tb_byteEl_62 : byteEl Try.prog 62 = false := by kernel_rfl
theorem tb_tk_63 : tk Try.prog 63 = TK.other := by kernel_rfl
theorem tb_loadK_63 : loadK Try.prog 63 = some (false, 1) := by kernel_rfl
theorem tb_zeroK_63 : zeroK Try.prog 63 = some [Value.tuple { toList := [Value.pointer none, Value.int IntKind.i64 0] }] := by kernel_rfl
theorem tb_bytesK_63 : bytesK Try.prog 63 = some 0 := by kernel_rfl
theorem tb_sliceElem_63 : sliceElem Try.prog 63 = none := by kernel_rfl
theorem tb_arrElem_63 : arrElem Try.prog 63 = none := by kernel_rfl
theorem tb_byteEl_63 : byteEl Try.prog 63 = false := by kernel_rfl
theorem tb_tk_64 : tk Try.prog 64 = TK.other := by kernel_rfl
theorem tb_loadK_64 : loadK Try.prog 64 = some (false, 1) := by kernel_rfl
theorem tb_zeroK_64 : zeroK Try.prog 64 = some [Value.nilFunc] := by kernel_rfl
theorem tb_bytesK_64 : bytesK Try.prog 64 = some 8 := by kernel_rfl
theorem tb_sliceElem_64 : sliceElem Try.prog 64 = none := by kernel_rfl
theorem tb_arrElem_64 : arrElem Try.prog 64 = none := by kernel_rfl
theorem tb_byteEl_64 : byteEl Try.prog 64 = false := by kernel_rfl
theorem tb_tk_65 : tk Try.prog 65 = TK.slc := by kernel_rfl
theorem tb_loadK_65 : loadK Try.prog 65 = some (false, 1) := by kernel_rfl
theorem tb_zeroK_65 : zeroK Try.prog 65 = some [Value.slice none 0 0] := by kernel_rfl
theorem tb_bytesK_65 : bytesK Try.prog 65 = some 24 := by kernel_rfl
theorem tb_sliceElem_65 : sliceElem Try.prog 65 = some (22, 1) := by kernel_rfl
theorem tb_arrElem_65 : arrElem Try.prog 65 = none := by kernel_rfl
theorem tb_byteEl_65 : byteEl Try.prog 65 = false := by kernel_rfl
theorem tb_tk_66 : tk Try.prog 66 = TK.other := by kernel_rfl
theorem tb_loadK_66 : loadK Try.prog 66 = some (true, 3) := by kernel_rfl
theorem tb_zeroK_66 : zeroK Try.prog 66 = some [Value.slice none 0 0, Value.slice none 0 0, Value.slice none 0 0] := by kernel_rfl
theorem tb_bytesK_66 : bytesK Try.prog 66 = some 72 := by kernel_rfl
theorem tb_sliceElem_66 : sliceElem Try.prog 66 = none := by kernel_rfl
theorem tb_arrElem_66 : arrElem Try.prog 66 = none := by kernel_rfl
theorem tb_placesK_66 : placesK Try.prog 66 = some [(0, 2), (2, 1)] := by kernel_rfl
theorem tb_byteEl_66 : byteEl Try.prog 66 = false := by kernel_rfl
theorem tb_fieldK_66_0 : fieldK Try.prog 66 0 = some (0, true, 2) := by kernel_rfl
theorem tb_fieldK_66_1 : fieldK Try.prog 66 1 = some (2, false, 1) := by kernel_rfl
theorem tb_tk_67 : tk Try.prog 67 = TK.other := by kernel_rfl
theorem tb_loadK_67 : loadK Try.prog 67 = some (true, 3) := by kernel_rfl
theorem tb_zeroK_67 : zeroK Try.prog 67 = some [Value.slice none 0 0, Value.slice none 0 0, Value.slice none 0 0] := by kernel_rfl
theorem tb_bytesK_67 : bytesK Try.prog 67 = some 72 := by kernel_rfl
theorem tb_sliceElem_67 : sliceElem Try.prog 67 = none := by kernel_rfl
theorem tb_arrElem_67 : arrElem Try.prog 67 = none := by kernel_rfl
theorem tb_placesK_67 : placesK Try.prog 67 = some [(0, 2), (2, 1)] := by kernel_rfl
theorem tb_byteEl_67 : byteEl Try.prog 67 = false := by kernel_rfl
theorem tb_fieldK_67_0 : fieldK Try.prog 67 0 = some (0, true, 2) := by kernel_rfl
theorem tb_fieldK_67_1 : fieldK Try.prog 67 1 = some (2, false, 1) := by kernel_rfl
theorem tb_tk_68 : tk Try.prog 68 = TK.other := by kernel_rfl
theorem tb_loadK_68 : loadK Try.prog 68 = some (false, 1) := by kernel_rfl
theorem tb_zeroK_68 : zeroK Try.prog 68 = some [Value.nilFunc] := by kernel_rfl
theorem tb_bytesK_68 : bytesK Try.prog 68 = some 8 := by kernel_rfl
theorem tb_sliceElem_68 : sliceElem Try.prog 68 = none := by kernel_rfl
theorem tb_arrElem_68 : arrElem Try.prog 68 = none := by kernel_rfl
theorem tb_byteEl_68 : byteEl Try.prog 68 = false := by kernel_rfl
theorem tb_tk_69 : tk Try.prog 69 = TK.other := by kernel_rfl
theorem tb_loadK_69 : loadK Try.prog 69 = some (false, 1) := by kernel_rfl
theorem tb_zeroK_69 : zeroK Try.prog 69 = some [Value.nilFunc] := by kernel_rfl
theorem tb_bytesK_69 : bytesK Try.prog 69 = some 8 := by kernel_rfl
theorem tb_sliceElem_69 : sliceElem Try.prog 69 = none := by kernel_rfl
theorem tb_arrElem_69 : arrElem Try.prog 69 = none := by kernel_rfl
theorem tb_byteEl_69 : byteEl Try.prog 69 = false := by kernel_rfl
theorem tb_tk_70 : tk Try.prog 70 = TK.other := by kernel_rfl
theorem tb_loadK_70 : loadK Try.prog 70 = some (false, 1) := by kernel_rfl
theorem tb_zeroK_70 : zeroK Try.prog 70 = some [Value.tuple { toList := [Value.slice none 0 0, Value.bool false] }] := by kernel_rfl
theorem tb_bytesK_70 : bytesK Try.prog 70 = some 0 := by kernel_rfl
theorem tb_sliceElem_70 : sliceElem Try.prog 70 = none := by kernel_rfl
theorem tb_arrElem_70 : arrElem Try.prog 70 = none := by kernel_rfl
theorem tb_byteEl_70 : byteEl Try.prog 70 = false := by kernel_rfl
theorem tb_tk_71 : tk Try.prog 71 = TK.other := by kernel_rfl
theorem tb_loadK_71 : loadK Try.prog 71 = some (false, 1) := by kernel_rfl
theorem tb_zeroK_71 : zeroK Try.prog 71 = some [Value.nilFunc] := by kernel_rfl
theorem tb_bytesK_71 : bytesK Try.prog 71 = some 8 := by kernel_rfl
theorem tb_sliceElem_71 : sliceElem Try.prog 71 = none := by kernel_rfl
theorem tb_arrElem_71 : arrElem Try.prog 71 = none := by kernel_rfl
theorem tb_byteEl_71 : byteEl Try.prog 71 = false := by kernel_rfl
theorem tb_tk_72 : tk Try.prog 72 = TK.other := by kernel_rfl
theorem tb_loadK_72 : loadK Try.prog 72 = some (false, 1) := by kernel_rfl
theorem tb_zeroK_72 : zeroK Try.prog 72 = some [Value.nilFunc] := by kernel_rfl
theorem tb_bytesK_72 : bytesK Try.prog 72 = some 8 := by kernel_rfl
theorem tb_sliceElem_72 : sliceElem Try.prog 72 = none := by kernel_rfl
theorem tb_arrElem_72 : arrElem Try.prog 72 = none := by kernel_rfl
theorem tb_byteEl_72 : byteEl Try.prog 72 = false := by kernel_rfl
theorem tb_tk_73 : tk Try.prog 73 = TK.other := by kernel_rfl
theorem tb_loadK_73 : loadK Try.prog 73 = some (false, 1) := by kernel_rfl
theorem tb_zeroK_73 : zeroK Try.prog 73 = some [Value.nilFunc] := by kernel_rfl
theorem tb_bytesK_73 : bytesK Try.prog 73 = some 8 := by kernel_rfl
theorem tb_sliceElem_73 : sliceElem Try.prog 73 = none := by kernel_rfl
theorem tb_arrElem_73 : arrElem Try.prog 73 = none := by kernel_rfl
theorem tb_byteEl_73 : byteEl Try.prog 73 = false := by kernel_rfl
theorem tb_tk_74 : tk Try.prog 74 = TK.ptr := by kernel_rfl
theorem tb_loadK_74 : loadK Try.prog 74 = some (false, 1) := by kernel_rfl
theorem tb_zeroK_74 : zeroK Try.prog 74 = some [Value.pointer none] := by kernel_rfl
theorem tb_bytesK_74 : bytesK Try.prog 74 = some 8 := by kernel_rfl
theorem tb_sliceElem_74 : sliceElem Try.prog 74 = none := by kernel_rfl
theorem tb_arrElem_74 : arrElem Try.prog 74 = none := by kernel_rfl
theorem tb_byteEl_74 : byteEl Try.prog 74 = false := by kernel_rfl
theorem tb_tk_75 : tk Try.prog 75 = TK.slc := by kernel_rfl
theorem tb_loadK_75 : loadK Try.prog 75 = some (false, 1) := by kernel_rfl
theorem tb_zeroK_75 : zeroK Try.prog 75 = some [Value.slice none 0 0] := by kernel_rfl
theorem tb_bytesK_75 : bytesK Try.prog 75 = some 24 := by kernel_rfl
theorem tb_sliceElem_75 : sliceElem Try.prog 75 = some (5, 1) := by kernel_rfl
theorem tb_arrElem_75 : arrElem Try.prog 75 = none := by kernel_rfl
theorem tb_byteEl_75 : byteEl Try.prog 75 = true := by kernel_rfl
theorem tb_tk_76 : tk Try.prog 76 = TK.other := by kernel_rfl
theorem tb_loadK_76 : loadK Try.prog 76 = some (true, 2) := by kernel_rfl
theorem tb_zeroK_76 : zeroK Try.prog 76 = some [Value.pointer none, Value.slice none 0 0] := by kernel_rfl
theorem tb_bytesK_76 : bytesK Try.prog 76 = some 32 := by kernel_rfl
theorem tb_sliceElem_76 : sliceElem Try.prog 76 = none := by kernel_rfl
theorem tb_arrElem_76 : arrElem Try.prog 76 = none := by kernel_rfl
theorem tb_placesK_76 : placesK Try.prog 76 = some [(0, 1), (1, 1)] := by kernel_rfl
theorem tb_byteEl_76 : byteEl Try.prog 76 = false := by kernel_rfl
theorem tb_fieldK_76_0 : fieldK Try.prog 76 0 = some (0, false, 1) := by kernel_rfl
theorem tb_fieldK_76_1 : fieldK Try.prog 76 1 = some (1, false, 1) := by kernel_rfl
theorem tb_tk_77 : tk Try.prog 77 = TK.other := by kernel_rfl
theorem tb_loadK_77 : loadK Try.prog 77 = some (true, 2) := by kernel_rfl
theorem tb_zeroK_77 : zeroK Try.prog 77 = some [Value.pointer none, Value.slice none 0 0] := by kernel_rfl
theorem tb_bytesK_77 : bytesK Try.prog 77 = some 32 := by kernel_rfl
theorem tb_sliceElem_77 : sliceElem Try.prog 77 = none := by kernel_rfl
theorem tb_arrElem_77 : arrElem Try.prog 77 = none := by kernel_rfl
theorem tb_placesK_77 : placesK Try.prog 77 = some [(0, 1), (1, 1)] := by kernel_rfl
theorem tb_byteEl_77 : byteEl Try.prog 77 = false := by kernel_rfl
theorem tb_fieldK_77_0 : fieldK Try.prog 77 0 = some (0, false, 1) := by kernel_rfl
theorem tb_fieldK_77_1 : fieldK Try.prog 77 1 = some (1, false, 1) := by kernel_rfl
theorem tb_tk_78 : tk Try.prog 78 = TK.other := by kernel_rfl
theorem tb_loadK_78 : loadK Try.prog 78 = some (false, 1) := by kernel_rfl
theorem tb_zeroK_78 : zeroK Try.prog 78 = some [Value.nilIface] := by kernel_rfl
theorem tb_bytesK_78 : bytesK Try.prog 78 = some 16 := by kernel_rfl
theorem tb_sliceElem_78 : sliceElem Try.prog 78 = none := by kernel_rfl
theorem tb_arrElem_78 : arrElem Try.prog 78 = none := by kernel_rfl
theorem tb_byteEl_78 : byteEl Try.prog 78 = false := by kernel_rfl
theorem tb_tk_79 : tk Try.prog 79 = TK.other := by kernel_rfl
theorem tb_loadK_79 : loadK Try.prog 79 = some (false, 1) := by kernel_rfl
theorem tb_zeroK_79 : zeroK Try.prog 79 = some [Value.nilIface] := by kernel_rfl
theorem tb_bytesK_79 : bytesK Try.prog 79 = some 16 := by kernel_rfl
theorem tb_sliceElem_79 : sliceElem Try.prog 79 = none := by kernel_rfl
theorem tb_arrElem_79 : arrElem Try.prog 79 = none := by kernel_rfl
theorem tb_byteEl_79 : byteEl Try.prog 79 = false := by kernel_rfl
theorem tb_tk_80 : tk Try.prog 80 = TK.other := by kernel_rfl
theorem tb_loadK_80 : loadK Try.prog 80 = some (false, 1) := by kernel_rfl
theorem tb_zeroK_80 : zeroK Try.prog 80 = some [Value.tuple { toList := [Value.int IntKind.i64 0, Value.nilIface] }] := by kernel_rfl
theorem tb_bytesK_80 : bytesK Try.prog 80 = some 0 := by kernel_rfl
theorem tb_sliceElem_80 : sliceElem Try.prog 80 = none := by kernel_rfl
theorem tb_arrElem_80 : arrElem Try.prog 80 = none := by kernel_rfl
theorem tb_byteEl_80 : byteEl Try.prog 80 = false := by kernel_rfl
theorem tb_tk_81 : tk Try.prog 81 = TK.other := by kernel_rfl
theorem tb_loadK_81 : loadK Try.prog 81 = some (false, 1) := by kernel_rfl
theorem tb_zeroK_81 : zeroK Try.prog 81 = some [Value.nilFunc] := by kernel_rfl
theorem tb_bytesK_81 : bytesK Try.prog 81 = some 8 := by kernel_rfl
theorem tb_sliceElem_81 : sliceElem Try.prog 81 = none := by kernel_rfl
theorem tb_arrElem_81 : arrElem Try.prog 81 = none := by kernel_rfl
theorem tb_byteEl_81 : byteEl Try.prog 81 = false := by kernel_rfl
theorem tb_tk_82 : tk Try.prog 82 = TK.other := by kernel_rfl
theorem tb_loadK_82 : loadK Try.prog 82 = some (false, 1) := by kernel_rfl
theorem tb_zeroK_82 : zeroK Try.prog 82 = some [Value.nilFunc] := by kernel_rfl
theorem tb_bytesK_82 : bytesK Try.prog 82 = some 8 := by kernel_rfl
theorem tb_sliceElem_82 : sliceElem Try.prog 82 = none := by kernel_rfl
theorem tb_arrElem_82 : arrElem Try.prog 82 = none := by kernel_rfl
theorem tb_byteEl_82 : byteEl Try.prog 82 = false := by kernel_rfl
theorem tb_tk_83 : tk Try.prog 83 = TK.other := by kernel_rfl
theorem tb_loadK_83 : loadK Try.prog 83 = some (false, 1) := by kernel_rfl
theorem tb_zeroK_83 : zeroK Try.prog 83 = some [Value.nilFunc] := by kernel_rfl
theorem tb_bytesK_83 : bytesK Try.prog 83 = some 8 := by kernel_rfl
theorem tb_sliceElem_83 : sliceElem Try.prog 83 = none := by kernel_rfl
theorem tb_arrElem_83 : arrElem Try.prog 83 = none := by kernel_rfl
theorem tb_byteEl_83 : byteEl Try.prog 83 = false := by kernel_rfl
theorem tb_tk_84 : tk Try.prog 84 = TK.other := by kernel_rfl
theorem tb_loadK_84 : loadK Try.prog 84 = some (false, 1) := by kernel_rfl
theorem tb_zeroK_84 : zeroK Try.prog 84 = some [Value.nilFunc] := by kernel_rfl
theorem tb_bytesK_84 : bytesK Try.prog 84 = some 8 := by kernel_rfl
theorem tb_sliceElem_84 : sliceElem Try.prog 84 = none := by kernel_rfl
theorem tb_arrElem_84 : arrElem Try.prog 84 = none := by kernel_rfl
theorem tb_byteEl_84 : byteEl Try.prog 84 = false := by kernel_rfl
theorem tb_tk_85 : tk Try.prog 85 = TK.other := by kernel_rfl
theorem tb_loadK_85 : loadK Try.prog 85 = some (false, 1) := by kernel_rfl
theorem tb_zeroK_85 : zeroK Try.prog 85 = some [Value.nilFunc] := by kernel_rfl
theorem tb_bytesK_85 : bytesK Try.prog 85 = some 8 := by kernel_rfl
theorem tb_sliceElem_85 : sliceElem Try.prog 85 = none := by kernel_rfl
theorem tb_arrElem_85 : arrElem Try.prog 85 = none := by kernel_rfl
theorem tb_byteEl_85 : byteEl Try.prog 85 = false := by kernel_rfl
theorem tb_tk_86 : tk Try.prog 86 = TK.other := by kernel_rfl
theorem tb_loadK_86 : loadK Try.prog 86 = some (false, 1) := by kernel_rfl
theorem tb_zeroK_86 : zeroK Try.prog 86 = some [Value.nilFunc] := by kernel_rfl
theorem tb_bytesK_86 : bytesK Try.prog 86 = some 8 := by kernel_rfl
theorem tb_sliceElem_86 : sliceElem Try.prog 86 = none := by kernel_rfl
theorem tb_arrElem_86 : arrElem Try.prog 86 = none := by kernel_rfl
theorem tb_byteEl_86 : byteEl Try.prog 86 = false := by kernel_rfl
theorem tb_tk_87 : tk Try.prog 87 = TK.other := by kernel_rfl
theorem tb_loadK_87 : loadK Try.prog 87 = some (false, 1) := by kernel_rfl
theorem tb_zeroK_87 : zeroK Try.prog 87 = some [Value.nilFunc] := by kernel_rfl
theorem tb_bytesK_87 : bytesK Try.prog 87 = some 8 := by kernel_rfl
theorem tb_sliceElem_87 : sliceElem Try.prog 87 = none := by kernel_rfl
theorem tb_arrElem_87 : arrElem Try.prog 87 = none := by kernel_rfl
theorem tb_byteEl_87 : byteEl Try.prog 87 = false := by kernel_rfl
theorem tb_tk_88 : tk Try.prog 88 = TK.other := by kernel_rfl
theorem tb_loadK_88 : loadK Try.prog 88 = some (false, 1) := by kernel_rfl
theorem tb_zeroK_88 : zeroK Try.prog 88 = some [Value.nilFunc] := by kernel_rfl
theorem tb_bytesK_88 : bytesK Try.prog 88 = some 8 := by kernel_rfl
theorem tb_sliceElem_88 : sliceElem Try.prog 88 = none := by kernel_rfl
theorem tb_arrElem_88 : arrElem Try.prog 88 = none := by kernel_rfl
theorem tb_byteEl_88 : byteEl Try.prog 88 = false := by kernel_rfl
theorem tb_tk_89 : tk Try.prog 89 = TK.other := by kernel_rfl
theorem tb_loadK_89 : loadK Try.prog 89 = some (false, 1) := by kernel_rfl
theorem tb_zeroK_89 : zeroK Try.prog 89 = some [Value.nilFunc] := by kernel_rfl
theorem tb_bytesK_89 : bytesK Try.prog 89 = some 8 := by kernel_rfl
theorem tb_sliceElem_89 : sliceElem Try.prog 89 = none := by kernel_rfl
theorem tb_arrElem_89 : arrElem Try.prog 89 = none := by kernel_rfl
theorem tb_byteEl_89 : byteEl Try.prog 89 = false := by kernel_rfl
theorem tb_tk_90 : tk Try.prog 90 = TK.other := by kernel_rfl
theorem tb_loadK_90 : loadK Try.prog 90 = some (false, 1) := by kernel_rfl
theorem tb_zeroK_90 : zeroK Try.prog 90 = some [Value.nilFunc] := by kernel_rfl
theorem tb_bytesK_90 : bytesK Try.prog 90 = some 8 := by kernel_rfl
theorem tb_sliceElem_90 : sliceElem Try.prog 90 = none := by kernel_rfl
theorem tb_arrElem_90 : arrElem Try.prog 90 = none := by kernel_rfl
theorem tb_byteEl_90 : byteEl Try.prog 90 = false := by kernel_rfl
theorem tb_tk_91 : tk Try.prog 91 = TK.other := by kernel_rfl
theorem tb_loadK_91 : loadK Try.prog 91 = some (false, 1) := by kernel_rfl
theorem tb_zeroK_91 : zeroK Try.prog 91 = some [Value.nilFunc] := by kernel_rfl
theorem tb_bytesK_91 : bytesK Try.prog 91 = some 8 := by kernel_rfl
theorem tb_sliceElem_91 : sliceElem Try.prog 91 = none := by kernel_rfl
theorem tb_arrElem_91 : arrElem Try.prog 91 = none := by kernel_rfl
theorem tb_byteEl_91 : byteEl Try.prog 91 = false := by kernel_rfl
theorem tb_tk_92 : tk Try.prog 92 = TK.other := by kernel_rfl
theorem tb_loadK_92 : loadK Try.prog 92 = some (false, 1) := by kernel_rfl
theorem tb_zeroK_92 : zeroK Try.prog 92 = some [Value.nilFunc] := by kernel_rfl
theorem tb_bytesK_92 : bytesK Try.prog 92 = some 8 := by kernel_rfl
theorem tb_sliceElem_92 : sliceElem Try.prog 92 = none := by kernel_rfl
theorem tb_arrElem_92 : arrElem Try.prog 92 = none := by kernel_rfl
theorem tb_byteEl_92 : byteEl Try.prog 92 = false := by kernel_rfl
theorem tb_tk_93 : tk Try.prog 93 = TK.other := by kernel_rfl
theorem tb_loadK_93 : loadK Try.prog 93 = some (false, 1) := by kernel_rfl
theorem tb_zeroK_93 : zeroK Try.prog 93 = some [Value.nilFunc] := by kernel_rfl
theorem tb_bytesK_93 : bytesK Try.prog 93 = some 8 := by kernel_rfl
theorem tb_sliceElem_93 : sliceElem Try.prog 93 = none := by kernel_rfl
theorem tb_arrElem_93 : arrElem Try.prog 93 = none := by kernel_rfl
theorem tb_byteEl_93 : byteEl Try.prog 93 = false := by kernel_rfl
theorem tb_tk_94 : tk Try.prog 94 = TK.other := by kernel_rfl
theorem tb_loadK_94 : loadK Try.prog 94 = some (false, 1) := by kernel_rfl
theorem tb_zeroK_94 : zeroK Try.prog 94 = some [Value.tuple { toList := [Value.slice none 0 0, Value.bool false] }] := by kernel_rfl
theorem tb_bytesK_94 : bytesK Try.prog 94 = some 0 := by kernel_rfl
theorem tb_sliceElem_94 : sliceElem Try.prog 94 = none := by kernel_rfl
theorem tb_arrElem_94 : arrElem Try.prog 94 = none := by kernel_rfl
theorem tb_byteEl_94 : byteEl Try.prog 94 = false := by kernel_rfl
theorem tb_tk_95 : tk Try.prog 95 = TK.other := by kernel_rfl
theorem tb_loadK_95 : loadK Try.prog 95 = some (false, 1) := by kernel_rfl
theorem tb_zeroK_95 : zeroK Try.prog 95 = some [Value.nilFunc] := by kernel_rfl
theorem tb_bytesK_95 : bytesK Try.prog 95 = some 8 := by kernel_rfl
theorem tb_sliceElem_95 : sliceElem Try.prog 95 = none := by kernel_rfl
theorem tb_arrElem_95 : arrElem Try.prog 95 = none := by kernel_rfl
theorem tb_byteEl_95 : byteEl Try.prog 95 = false := by kernel_rfl
theorem tb_tk_96 : tk Try.prog 96 = TK.other := by kernel_rfl
theorem tb_loadK_96 : loadK Try.prog 96 = some (false, 1) := by kernel_rfl
theorem tb_zeroK_96 : zeroK Try.prog 96 = some [Value.nilFunc] := by kernel_rfl
theorem tb_bytesK_96 : bytesK Try.prog 96 = some 8 := by kernel_rfl
theorem tb_sliceElem_96 : sliceElem Try.prog 96 = none := by kernel_rfl
theorem tb_arrElem_96 : arrElem Try.prog 96 = none := by kernel_rfl
theorem tb_byteEl_96 : byteEl Try.prog 96 = false := by kernel_rfl
theorem tb_tk_97 : tk Try.prog 97 = TK.other := by kernel_rfl
theorem tb_loadK_97 : loadK Try.prog 97 = some (false, 1) := by kernel_rfl
theorem tb_zeroK_97 : zeroK Try.prog 97 = some [Value.nilFunc] := by kernel_rfl
theorem tb_bytesK_97 : bytesK Try.prog 97 = some 8 := by kernel_rfl
theorem tb_sliceElem_97 : sliceElem Try.prog 97 = none := by kernel_rfl
theorem tb_arrElem_97 : arrElem Try.prog 97 = none := by kernel_rfl
theorem tb_byteEl_97 : byteEl Try.prog 97 = false := by kernel_rfl
theorem tb_tk_98 : tk Try.prog 98 = TK.other := by kernel_rfl
theorem tb_loadK_98 : loadK Try.prog 98 = some (false, 1) := by kernel_rfl
theorem tb_zeroK_98 : zeroK Try.prog 98 = some [Value.nilFunc] := by kernel_rfl
theorem tb_bytesK_98 : bytesK Try.prog 98 = some 8 := by kernel_rfl
theorem tb_sliceElem_98 : sliceElem Try.prog 98 = none := by kernel_rfl
theorem tb_arrElem_98 : arrElem Try.prog 98 = none := by kernel_rfl
theorem tb_byteEl_98 : byteEl Try.prog 98 = false := by kernel_rfl
theorem tb_tk_99 : tk Try.prog 99 = TK.ptr := by kernel_rfl
theorem tb_loadK_99 : loadK Try.prog 99 = some (false, 1) := by kernel_rfl
theorem tb_zeroK_99 : zeroK Try.prog 99 = some [Value.pointer none] := by kernel_rfl
theorem tb_bytesK_99 : bytesK Try.prog 99 = some 8 := by kernel_rfl
theorem tb_sliceElem_99 : sliceElem Try.prog 99 = none := by kernel_rfl
theorem tb_arrElem_99 : arrElem Try.prog 99 = none := by kernel_rfl
theorem tb_byteEl_99 : byteEl Try.prog 99 = false := by kernel_rfl
theorem tb_tk_100 : tk Try.prog 100 = TK.other := by kernel_rfl
theorem tb_loadK_100 : loadK Try.prog 100 = some (false, 1) := by kernel_rfl
theorem tb_zeroK_100 : zeroK Try.prog 100 = some [Value.nilFunc] := by kernel_rfl
theorem tb_bytesK_100 : bytesK Try.prog 100 = some 8 := by kernel_rfl
theorem tb_sliceElem_100 : sliceElem Try.prog 100 = none := by kernel_rfl
theorem tb_arrElem_100 : arrElem Try.prog 100 = none := by kernel_rfl
theorem tb_byteEl_100 : byteEl Try.prog 100 = false := by kernel_rfl
theorem tb_tk_101 : tk Try.prog 101 = TK.other := by kernel_rfl
theorem tb_loadK_101 : loadK Try.prog 101 = some (false, 1) := by kernel_rfl
theorem tb_zeroK_101 : zeroK Try.prog 101 = some [Value.nilFunc] := by kernel_rfl
theorem tb_bytesK_101 : bytesK Try.prog 101 = some 8 := by kernel_rfl
theorem tb_sliceElem_101 : sliceElem Try.prog 101 = none := by kernel_rfl
theorem tb_arrElem_101 : arrElem Try.prog 101 = none := by kernel_rfl
theorem tb_byteEl_101 : byteEl Try.prog 101 = false := by kernel_rfl
theorem tb_tk_102 : tk Try.prog 102 = TK.other := by kernel_rfl
theorem tb_loadK_102 : loadK Try.prog 102 = some (false, 1) := by kernel_rfl
theorem tb_zeroK_102 : zeroK Try.prog 102 = some [Value.tuple { toList := [Value.string ByteArray.empty, Value.string ByteArray.empty, Value.bool false] }] := by kernel_rfl
theorem tb_bytesK_102 : bytesK Try.prog 102 = some 0 := by kernel_rfl
theorem tb_sliceElem_102 : sliceElem Try.prog 102 = none := by kernel_rfl
theorem tb_arrElem_102 : arrElem Try.prog 102 = none := by kernel_rfl
theorem tb_byteEl_102 : byteEl Try.prog 102 = false := by kernel_rfl
theorem tb_tk_103 : tk Try.prog 103 = TK.other := by kernel_rfl
theorem tb_loadK_103 : loadK Try.prog 103 = some (false, 1) := by kernel_rfl
theorem tb_zeroK_103 : zeroK Try.prog 103 = some [Value.nilFunc] := by kernel_rfl
theorem tb_bytesK_103 : bytesK Try.prog 103 = some 8 := by kernel_rfl
theorem tb_sliceElem_103 : sliceElem Try.prog 103 = none := by kernel_rfl
theorem tb_arrElem_103 : arrElem Try.prog 103 = none := by kernel_rfl
theorem tb_byteEl_103 : byteEl Try.prog 103 = false := by kernel_rfl
theorem tb_tk_104 : tk Try.prog 104 = TK.other := by kernel_rfl
theorem tb_loadK_104 : loadK Try.prog 104 = some (false, 1) := by kernel_rfl
theorem tb_zeroK_104 : zeroK Try.prog 104 = some [Value.nilFunc] := by kernel_rfl
theorem tb_bytesK_104 : bytesK Try.prog 104 = some 8 := by kernel_rfl
theorem tb_sliceElem_104 : sliceElem Try.prog 104 = none := by kernel_rfl
theorem tb_arrElem_104 : arrElem Try.prog 104 = none := by kernel_rfl
theorem tb_byteEl_104 : byteEl Try.prog 104 = false := by kernel_rfl
theorem tb_tk_105 : tk Try.prog 105 = TK.other := by kernel_rfl
theorem tb_loadK_105 : loadK Try.prog 105 = some (false, 1) := by kernel_rfl
theorem tb_zeroK_105 : zeroK Try.prog 105 = some [Value.nilFunc] := by kernel_rfl
theorem tb_bytesK_105 : bytesK Try.prog 105 = some 8 := by kernel_rfl
theorem tb_sliceElem_105 : sliceElem Try.prog 105 = none := by kernel_rfl
theorem tb_arrElem_105 : arrElem Try.prog 105 = none := by kernel_rfl
theorem tb_byteEl_105 : byteEl Try.prog 105 = false := by kernel_rfl
theorem tb_tk_106 : tk Try.prog 106 = TK.other := by kernel_rfl
theorem tb_loadK_106 : loadK Try.prog 106 = some (false, 1) := by kernel_rfl
theorem tb_zeroK_106 : zeroK Try.prog 106 = some [Value.nilFunc] := by kernel_rfl
theorem tb_bytesK_106 : bytesK Try.prog 106 = some 8 := by kernel_rfl
theorem tb_sliceElem_106 : sliceElem Try.prog 106 = none := by kernel_rfl
theorem tb_arrElem_106 : arrElem Try.prog 106 = none := by kernel_rfl
theorem tb_byteEl_106 : byteEl Try.prog 106 = false := by kernel_rfl
theorem tb_tk_107 : tk Try.prog 107 = TK.other := by kernel_rfl
theorem tb_loadK_107 : loadK Try.prog 107 = some (false, 1) := by kernel_rfl
theorem tb_zeroK_107 : zeroK Try.prog 107 = some [Value.nilFunc] := by kernel_rfl
theorem tb_bytesK_107 : bytesK Try.prog 107 = some 8 := by kernel_rfl
theorem tb_sliceElem_107 : sliceElem Try.prog 107 = none := by kernel_rfl
theorem tb_arrElem_107 : arrElem Try.prog 107 = none := by kernel_rfl
theorem tb_byteEl_107 : byteEl Try.prog 107 = false := by kernel_rfl
theorem tb_tk_108 : tk Try.prog 108 = TK.other := by kernel_rfl
theorem tb_loadK_108 : loadK Try.prog 108 = some (false, 1) := by kernel_rfl
theorem tb_zeroK_108 : zeroK Try.prog 108 = some [Value.nilFunc] := by kernel_rfl
theorem tb_bytesK_108 : bytesK Try.prog 108 = some 8 := by kernel_rfl
theorem tb_sliceElem_108 : sliceElem Try.prog 108 = none := by kernel_rfl
theorem tb_arrElem_108 : arrElem Try.prog 108 = none := by kernel_rfl
theorem tb_byteEl_108 : byteEl Try.prog 108 = false := by kernel_rfl
theorem tb_tk_109 : tk Try.prog 109 = TK.int IntKind.u64 := by kernel_rfl
theorem tb_loadK_109 : loadK Try.prog 109 = some (false, 1) := by kernel_rfl
theorem tb_zeroK_109 : zeroK Try.prog 109 = some [Value.int IntKind.u64 0] := by kernel_rfl
theorem tb_bytesK_109 : bytesK Try.prog 109 = some 8 := by kernel_rfl
theorem tb_byteEl_109 : byteEl Try.prog 109 = false := by kernel_rfl
theorem tb_tk_110 : tk Try.prog 110 = TK.other := by kernel_rfl
theorem tb_loadK_110 : loadK Try.prog 110 = some (false, 1) := by kernel_rfl
theorem tb_zeroK_110 : zeroK Try.prog 110 = some [Value.nilFunc] := by kernel_rfl
theorem tb_bytesK_110 : bytesK Try.prog 110 = some 8 := by kernel_rfl
theorem tb_sliceElem_110 : sliceElem Try.prog 110 = none := by kernel_rfl
theorem tb_arrElem_110 : arrElem Try.prog 110 = none := by kernel_rfl
theorem tb_byteEl_110 : byteEl Try.prog 110 = false := by kernel_rfl
theorem tb_tk_111 : tk Try.prog 111 = TK.slc := by kernel_rfl
theorem tb_loadK_111 : loadK Try.prog 111 = some (false, 1) := by kernel_rfl
theorem tb_zeroK_111 : zeroK Try.prog 111 = some [Value.slice none 0 0] := by kernel_rfl
theorem tb_bytesK_111 : bytesK Try.prog 111 = some 24 := by kernel_rfl
theorem tb_sliceElem_111 : sliceElem Try.prog 111 = some (3, 1) := by kernel_rfl
theorem tb_arrElem_111 : arrElem Try.prog 111 = none := by kernel_rfl
theorem tb_byteEl_111 : byteEl Try.prog 111 = false := by kernel_rfl
theorem tb_tk_112 : tk Try.prog 112 = TK.other := by kernel_rfl
theorem tb_loadK_112 : loadK Try.prog 112 = some (false, 1) := by kernel_rfl
theorem tb_zeroK_112 : zeroK Try.prog 112 = some [Value.nilFunc] := by kernel_rfl
theorem tb_bytesK_112 : bytesK Try.prog 112 = some 8 := by kernel_rfl
theorem tb_sliceElem_112 : sliceElem Try.prog 112 = none := by kernel_rfl
theorem tb_arrElem_112 : arrElem Try.prog 112 = none := by kernel_rfl
theorem tb_byteEl_112 : byteEl Try.prog 112 = false := by kernel_rfl
theorem tb_tk_113 : tk Try.prog 113 = TK.other := by kernel_rfl
theorem tb_loadK_113 : loadK Try.prog 113 = some (false, 1) := by kernel_rfl
theorem tb_zeroK_113 : zeroK Try.prog 113 = some [Value.nilFunc] := by kernel_rfl
theorem tb_bytesK_113 : bytesK Try.prog 113 = some 8 := by kernel_rfl
theorem tb_sliceElem_113 : sliceElem Try.prog 113 = none := by kernel_rfl
theorem tb_arrElem_113 : arrElem Try.prog 113 = none := by kernel_rfl
theorem tb_byteEl_113 : byteEl Try.prog 113 = false := by kernel_rfl
theorem tb_tk_114 : tk Try.prog 114 = TK.other := by kernel_rfl
theorem tb_loadK_114 : loadK Try.prog 114 = some (false, 1) := by kernel_rfl
theorem tb_zeroK_114 : zeroK Try.prog 114 = some [Value.pointer none] := by kernel_rfl
theorem tb_bytesK_114 : bytesK Try.prog 114 = some 8 := by kernel_rfl
theorem tb_sliceElem_114 : sliceElem Try.prog 114 = none := by kernel_rfl
theorem tb_arrElem_114 : arrElem Try.prog 114 = none := by kernel_rfl
theorem tb_byteEl_114 : byteEl Try.prog 114 = false := by kernel_rfl
theorem tb_tk_115 : tk Try.prog 115 = TK.other := by kernel_rfl
theorem tb_loadK_115 : loadK Try.prog 115 = some (false, 1) := by kernel_rfl
theorem tb_zeroK_115 : zeroK Try.prog 115 = some [Value.nilFunc] := by kernel_rfl
theorem tb_bytesK_115 : bytesK Try.prog 115 = some 8 := by kernel_rfl
theorem tb_sliceElem_115 : sliceElem Try.prog 115 = none := by kernel_rfl
theorem tb_arrElem_115 : arrElem Try.prog 115 = none := by kernel_rfl
theorem tb_byteEl_115 : byteEl Try.prog 115 = false := by kernel_rfl
theorem tb_tk_116 : tk Try.prog 116 = TK.other := by kernel_rfl
theorem tb_loadK_116 : loadK Try.prog 116 = some (false, 1) := by kernel_rfl
theorem tb_zeroK_116 : zeroK Try.prog 116 = some [Value.nilFunc] := by kernel_rfl
theorem tb_bytesK_116 : bytesK Try.prog 116 = some 8 := by kernel_rfl
theorem tb_sliceElem_116 : sliceElem Try.prog 116 = none := by kernel_rfl
theorem tb_arrElem_116 : arrElem Try.prog 116 = none := by kernel_rfl
theorem tb_byteEl_116 : byteEl Try.prog 116 = false := by kernel_rfl
theorem tb_tk_117 : tk Try.prog 117 = TK.other := by kernel_rfl
theorem tb_loadK_117 : loadK Try.prog 117 = some (false, 1) := by kernel_rfl
theorem tb_zeroK_117 : zeroK Try.prog 117 = some [Value.nilFunc] := by kernel_rfl
theorem tb_bytesK_117 : bytesK Try.prog 117 = some 8 := by kernel_rfl
theorem tb_sliceElem_117 : sliceElem Try.prog 117 = none := by kernel_rfl
theorem tb_arrElem_117 : arrElem Try.prog 117 = none := by kernel_rfl
theorem tb_byteEl_117 : byteEl Try.prog 117 = false := by kernel_rfl
theorem tb_tk_118 : tk Try.prog 118 = TK.int IntKind.i64 := by kernel_rfl
theorem tb_loadK_118 : loadK Try.prog 118 = some (false, 1) := by kernel_rfl
theorem tb_zeroK_118 : zeroK Try.prog 118 = some [Value.int IntKind.i64 0] := by kernel_rfl
theorem tb_bytesK_118 : bytesK Try.prog 118 = some 8 := by kernel_rfl
theorem tb_byteEl_118 : byteEl Try.prog 118 = false := by kernel_rfl
theorem tb_tk_119 : tk Try.prog 119 = TK.other := by kernel_rfl
theorem tb_loadK_119 : loadK Try.prog 119 = some (false, 1) := by kernel_rfl
theorem tb_zeroK_119 : zeroK Try.prog 119 = some [Value.tuple { toList := [Value.int IntKind.i64 0, Value.int IntKind.i64 0] }] := by kernel_rfl
theorem tb_bytesK_119 : bytesK Try.prog 119 = some 0 := by kernel_rfl
theorem tb_sliceElem_119 : sliceElem Try.prog 119 = none := by kernel_rfl
theorem tb_arrElem_119 : arrElem Try.prog 119 = none := by kernel_rfl
theorem tb_byteEl_119 : byteEl Try.prog 119 = false := by kernel_rfl
theorem tb_tk_120 : tk Try.prog 120 = TK.other := by kernel_rfl
theorem tb_loadK_120 : loadK Try.prog 120 = some (false, 1) := by kernel_rfl
theorem tb_zeroK_120 : zeroK Try.prog 120 = some [Value.nilFunc] := by kernel_rfl
theorem tb_bytesK_120 : bytesK Try.prog 120 = some 8 := by kernel_rfl
theorem tb_sliceElem_120 : sliceElem Try.prog 120 = none := by kernel_rfl
theorem tb_arrElem_120 : arrElem Try.prog 120 = none := by kernel_rfl
theorem tb_byteEl_120 : byteEl Try.prog 120 = false := by kernel_rfl
theorem tb_tk_121 : tk Try.prog 121 = TK.other := by kernel_rfl
theorem tb_loadK_121 : loadK Try.prog 121 = some (false, 1) := by kernel_rfl
theorem tb_zeroK_121 : zeroK Try.prog 121 = some [Value.nilFunc] := by kernel_rfl
theorem tb_bytesK_121 : bytesK Try.prog 121 = some 8 := by kernel_rfl
theorem tb_sliceElem_121 : sliceElem Try.prog 121 = none := by kernel_rfl
theorem tb_arrElem_121 : arrElem Try.prog 121 = none := by kernel_rfl
theorem tb_byteEl_121 : byteEl Try.prog 121 = false := by kernel_rfl
theorem tb_tk_122 : tk Try.prog 122 = TK.other := by kernel_rfl
theorem tb_loadK_122 : loadK Try.prog 122 = some (false, 1) := by kernel_rfl
theorem tb_zeroK_122 : zeroK Try.prog 122 = some [Value.nilFunc] := by kernel_rfl
theorem tb_bytesK_122 : bytesK Try.prog 122 = some 8 := by kernel_rfl
theorem tb_sliceElem_122 : sliceElem Try.prog 122 = none := by kernel_rfl
theorem tb_arrElem_122 : arrElem Try.prog 122 = none := by kernel_rfl
theorem tb_byteEl_122 : byteEl Try.prog 122 = false := by kernel_rfl
theorem tb_tk_123 : tk Try.prog 123 = TK.other := by kernel_rfl
theorem tb_loadK_123 : loadK Try.prog 123 = some (false, 1) := by kernel_rfl
theorem tb_zeroK_123 : zeroK Try.prog 123 = some [Value.tuple { toList := [Value.int IntKind.i64 0, Value.bool false] }] := by kernel_rfl
theorem tb_bytesK_123 : bytesK Try.prog 123 = some 0 := by kernel_rfl
theorem tb_sliceElem_123 : sliceElem Try.prog 123 = none := by kernel_rfl
theorem tb_arrElem_123 : arrElem Try.prog 123 = none := by kernel_rfl
theorem tb_byteEl_123 : byteEl Try.prog 123 = false := by kernel_rfl
theorem tb_tk_124 : tk Try.prog 124 = TK.other := by kernel_rfl
theorem tb_loadK_124 : loadK Try.prog 124 = some (false, 1) := by kernel_rfl
theorem tb_zeroK_124 : zeroK Try.prog 124 = some [Value.nilFunc] := by kernel_rfl
theorem tb_bytesK_124 : bytesK Try.prog 124 = some 8 := by kernel_rfl
theorem tb_sliceElem_124 : sliceElem Try.prog 124 = none := by kernel_rfl
theorem tb_arrElem_124 : arrElem Try.prog 124 = none := by kernel_rfl
theorem tb_byteEl_124 : byteEl Try.prog 124 = false := by kernel_rfl
theorem tb_tk_125 : tk Try.prog 125 = TK.other := by kernel_rfl
theorem tb_loadK_125 : loadK Try.prog 125 = some (false, 1) := by kernel_rfl
theorem tb_zeroK_125 : zeroK Try.prog 125 = some [Value.nilFunc] := by kernel_rfl
theorem tb_bytesK_125 : bytesK Try.prog 125 = some 8 := by kernel_rfl
theorem tb_sliceElem_125 : sliceElem Try.prog 125 = none := by kernel_rfl
theorem tb_arrElem_125 : arrElem Try.prog 125 = none := by kernel_rfl
theorem tb_byteEl_125 : byteEl Try.prog 125 = false := by kernel_rfl
theorem tb_tk_126 : tk Try.prog 126 = TK.int IntKind.u32 := by kernel_rfl
theorem tb_loadK_126 : loadK Try.prog 126 = some (false, 1) := by kernel_rfl
theorem tb_zeroK_126 : zeroK Try.prog 126 = some [Value.int IntKind.u32 0] := by kernel_rfl
theorem tb_bytesK_126 : bytesK Try.prog 126 = some 4 := by kernel_rfl
theorem tb_byteEl_126 : byteEl Try.prog 126 = false := by kernel_rfl
theorem tb_tk_127 : tk Try.prog 127 = TK.other := by kernel_rfl
theorem tb_loadK_127 : loadK Try.prog 127 = some (false, 1) := by kernel_rfl
theorem tb_zeroK_127 : zeroK Try.prog 127 = some [Value.nilFunc] := by kernel_rfl
theorem tb_bytesK_127 : bytesK Try.prog 127 = some 8 := by kernel_rfl
theorem tb_sliceElem_127 : sliceElem Try.prog 127 = none := by kernel_rfl
theorem tb_arrElem_127 : arrElem Try.prog 127 = none := by kernel_rfl
theorem tb_byteEl_127 : byteEl Try.prog 127 = false := by kernel_rfl
theorem tb_tk_128 : tk Try.prog 128 = TK.int IntKind.u64 := by kernel_rfl
theorem tb_loadK_128 : loadK Try.prog 128 = some (false, 1) := by kernel_rfl
theorem tb_zeroK_128 : zeroK Try.prog 128 = some [Value.int IntKind.u64 0] := by kernel_rfl
theorem tb_bytesK_128 : bytesK Try.prog 128 = some 8 := by kernel_rfl
theorem tb_byteEl_128 : byteEl Try.prog 128 = false := by kernel_rfl
theorem tb_tk_129 : tk Try.prog 129 = TK.other := by kernel_rfl
theorem tb_loadK_129 : loadK Try.prog 129 = some (false, 1) := by kernel_rfl
theorem tb_zeroK_129 : zeroK Try.prog 129 = some [Value.nilFunc] := by kernel_rfl
theorem tb_bytesK_129 : bytesK Try.prog 129 = some 8 := by kernel_rfl
theorem tb_sliceElem_129 : sliceElem Try.prog 129 = none := by kernel_rfl
theorem tb_arrElem_129 : arrElem Try.prog 129 = none := by kernel_rfl
theorem tb_byteEl_129 : byteEl Try.prog 129 = false := by kernel_rfl
theorem tb_tk_130 : tk Try.prog 130 = TK.other := by kernel_rfl
theorem tb_loadK_130 : loadK Try.prog 130 = some (false, 1) := by kernel_rfl
theorem tb_zeroK_130 : zeroK Try.prog 130 = some [Value.nilFunc] := by kernel_rfl
theorem tb_bytesK_130 : bytesK Try.prog 130 = some 8 := by kernel_rfl
theorem tb_sliceElem_130 : sliceElem Try.prog 130 = none := by kernel_rfl
theorem tb_arrElem_130 : arrElem Try.prog 130 = none := by kernel_rfl
theorem tb_byteEl_130 : byteEl Try.prog 130 = false := by kernel_rfl
theorem tb_tk_131 : tk Try.prog 131 = TK.other := by kernel_rfl
theorem tb_loadK_131 : loadK Try.prog 131 = some (false, 1) := by kernel_rfl
theorem tb_zeroK_131 : zeroK Try.prog 131 = some [Value.nilFunc] := by kernel_rfl
theorem tb_bytesK_131 : bytesK Try.prog 131 = some 8 := by kernel_rfl
theorem tb_sliceElem_131 : sliceElem Try.prog 131 = none := by kernel_rfl
theorem tb_arrElem_131 : arrElem Try.prog 131 = none := by kernel_rfl
theorem tb_byteEl_131 : byteEl Try.prog 131 = false := by kernel_rfl
theorem tb_tk_132 : tk Try.prog 132 = TK.int IntKind.u64 := by kernel_rfl
theorem tb_loadK_132 : loadK Try.prog 132 = some (false, 1) := by kernel_rfl
theorem tb_zeroK_132 : zeroK Try.prog 132 = some [Value.int IntKind.u64 0] := by kernel_rfl
theorem tb_bytesK_132 : bytesK Try.prog 132 = some 8 := by kernel_rfl
theorem tb_byteEl_132 : byteEl Try.prog 132 = false := by kernel_rfl
theorem tb_tk_133 : tk Try.prog 133 = TK.other := by kernel_rfl
theorem tb_loadK_133 : loadK Try.prog 133 = some (false, 1) := by kernel_rfl
theorem tb_zeroK_133 : zeroK Try.prog 133 = some [Value.nilFunc] := by kernel_rfl
theorem tb_bytesK_133 : bytesK Try.prog 133 = some 8 := by kernel_rfl
theorem tb_sliceElem_133 : sliceElem Try.prog 133 = none := by kernel_rfl
theorem tb_arrElem_133 : arrElem Try.prog 133 = none := by kernel_rfl
theorem tb_byteEl_133 : byteEl Try.prog 133 = false := by kernel_rfl
theorem tb_tk_134 : tk Try.prog 134 = TK.other := by kernel_rfl
theorem tb_loadK_134 : loadK Try.prog 134 = some (false, 1) := by kernel_rfl
theorem tb_zeroK_134 : zeroK Try.prog 134 = some [Value.nilFunc] := by kernel_rfl
theorem tb_bytesK_134 : bytesK Try.prog 134 = some 8 := by kernel_rfl
theorem tb_sliceElem_134 : sliceElem Try.prog 134 = none := by kernel_rfl
theorem tb_arrElem_134 : arrElem Try.prog 134 = none := by kernel_rfl
theorem tb_byteEl_134 : byteEl Try.prog 134 = false := by kernel_rfl
theorem tb_tk_135 : tk Try.prog 135 = TK.other := by kernel_rfl
theorem tb_loadK_135 : loadK Try.prog 135 = some (false, 1) := by kernel_rfl
theorem tb_zeroK_135 : zeroK Try.prog 135 = some [Value.nilFunc] := by kernel_rfl
theorem tb_bytesK_135 : bytesK Try.prog 135 = some 8 := by kernel_rfl
theorem tb_sliceElem_135 : sliceElem Try.prog 135 = none := by kernel_rfl
theorem tb_arrElem_135 : arrElem Try.prog 135 = none := by kernel_rfl
theorem tb_byteEl_135 : byteEl Try.prog 135 = false := by kernel_rfl
theorem tb_tk_136 : tk Try.prog 136 = TK.ptr := by kernel_rfl
theorem tb_loadK_136 : loadK Try.prog 136 = some (false, 1) := by kernel_rfl
theorem tb_zeroK_136 : zeroK Try.prog 136 = some [Value.pointer none] := by kernel_rfl
theorem tb_bytesK_136 : bytesK Try.prog 136 = some 8 := by kernel_rfl
theorem tb_sliceElem_136 : sliceElem Try.prog 136 = none := by kernel_rfl
theorem tb_arrElem_136 : arrElem Try.prog 136 = none := by kernel_rfl
theorem tb_byteEl_136 : byteEl Try.prog 136 = false := by kernel_rfl
theorem tb_tk_137 : tk Try.prog 137 = TK.other := by kernel_rfl
theorem tb_loadK_137 : loadK Try.prog 137 = some (false, 1) := by kernel_rfl
theorem tb_zeroK_137 : zeroK Try.prog 137 = some [Value.nilFunc] := by kernel_rfl
theorem tb_bytesK_137 : bytesK Try.prog 137 = some 8 := by kernel_rfl
theorem tb_sliceElem_137 : sliceElem Try.prog 137 = none := by kernel_rfl
theorem tb_arrElem_137 : arrElem Try.prog 137 = none := by kernel_rfl
theorem tb_byteEl_137 : byteEl Try.prog 137 = false := by kernel_rfl
theorem tb_tk_138 : tk Try.prog 138 = TK.other := by kernel_rfl
theorem tb_loadK_138 : loadK Try.prog 138 = some (false, 1) := by kernel_rfl
theorem tb_zeroK_138 : zeroK Try.prog 138 = some [Value.nilFunc] := by kernel_rfl
theorem tb_bytesK_138 : bytesK Try.prog 138 = some 8 := by kernel_rfl
theorem tb_sliceElem_138 : sliceElem Try.prog 138 = none := by kernel_rfl
theorem tb_arrElem_138 : arrElem Try.prog 138 = none := by kernel_rfl
theorem tb_byteEl_138 : byteEl Try.prog 138 = false := by kernel_rfl
theorem tb_tk_139 : tk Try.prog 139 = TK.other := by kernel_rfl
theorem tb_loadK_139 : loadK Try.prog 139 = some (false, 1) := by kernel_rfl
theorem tb_zeroK_139 : zeroK Try.prog 139 = some [Value.nilFunc] := by kernel_rfl
theorem tb_bytesK_139 : bytesK Try.prog 139 = some 8 := by kernel_rfl
theorem tb_sliceElem_139 : sliceElem Try.prog 139 = none := by kernel_rfl
theorem tb_arrElem_139 : arrElem Try.prog 139 = none := by kernel_rfl
theorem tb_byteEl_139 : byteEl Try.prog 139 = false := by kernel_rfl
theorem tb_tk_140 : tk Try.prog 140 = TK.ptr := by kernel_rfl
theorem tb_loadK_140 : loadK Try.prog 140 = some (false, 1) := by kernel_rfl
theorem tb_zeroK_140 : zeroK Try.prog 140 = some [Value.pointer none] := by kernel_rfl
theorem tb_bytesK_140 : bytesK Try.prog 140 = some 8 := by kernel_rfl
theorem tb_sliceElem_140 : sliceElem Try.prog 140 = none := by kernel_rfl
theorem tb_arrElem_140 : arrElem Try.prog 140 = none := by kernel_rfl
theorem tb_byteEl_140 : byteEl Try.prog 140 = false := by kernel_rfl
theorem tb_tk_141 : tk Try.prog 141 = TK.other := by kernel_rfl
theorem tb_loadK_141 : loadK Try.prog 141 = some (false, 1) := by kernel_rfl
theorem tb_zeroK_141 : zeroK Try.prog 141 = some [Value.tuple { toList := [Value.int IntKind.i64 0, Value.int IntKind.i64 0] }] := by kernel_rfl
theorem tb_bytesK_141 : bytesK Try.prog 141 = some 0 := by kernel_rfl
theorem tb_sliceElem_141 : sliceElem Try.prog 141 = none := by kernel_rfl
theorem tb_arrElem_141 : arrElem Try.prog 141 = none := by kernel_rfl
theorem tb_byteEl_141 : byteEl Try.prog 141 = false := by kernel_rfl
theorem tb_tk_142 : tk Try.prog 142 = TK.other := by kernel_rfl
theorem tb_loadK_142 : loadK Try.prog 142 = some (false, 1) := by kernel_rfl
theorem tb_zeroK_142 : zeroK Try.prog 142 = some [Value.nilFunc] := by kernel_rfl
theorem tb_bytesK_142 : bytesK Try.prog 142 = some 8 := by kernel_rfl
theorem tb_sliceElem_142 : sliceElem Try.prog 142 = none := by kernel_rfl
theorem tb_arrElem_142 : arrElem Try.prog 142 = none := by kernel_rfl
theorem tb_byteEl_142 : byteEl Try.prog 142 = false := by kernel_rfl
theorem tb_tk_143 : tk Try.prog 143 = TK.other := by kernel_rfl
theorem tb_loadK_143 : loadK Try.prog 143 = some (false, 1) := by kernel_rfl
theorem tb_zeroK_143 : zeroK Try.prog 143 = some [Value.tuple { toList := [Value.int IntKind.u32 0, Value.int IntKind.u32 0] }] := by kernel_rfl
theorem tb_bytesK_143 : bytesK Try.prog 143 = some 0 := by kernel_rfl
theorem tb_sliceElem_143 : sliceElem Try.prog 143 = none := by kernel_rfl
theorem tb_arrElem_143 : arrElem Try.prog 143 = none := by kernel_rfl
theorem tb_byteEl_143 : byteEl Try.prog 143 = false := by kernel_rfl
theorem tb_tk_144 : tk Try.prog 144 = TK.other := by kernel_rfl
theorem tb_loadK_144 : loadK Try.prog 144 = some (false, 1) := by kernel_rfl
theorem tb_zeroK_144 : zeroK Try.prog 144 = some [Value.nilFunc] := by kernel_rfl
theorem tb_bytesK_144 : bytesK Try.prog 144 = some 8 := by kernel_rfl
theorem tb_sliceElem_144 : sliceElem Try.prog 144 = none := by kernel_rfl
theorem tb_arrElem_144 : arrElem Try.prog 144 = none := by kernel_rfl
theorem tb_byteEl_144 : byteEl Try.prog 144 = false := by kernel_rfl
theorem tb_tk_145 : tk Try.prog 145 = TK.other := by kernel_rfl
theorem tb_loadK_145 : loadK Try.prog 145 = some (true, 4) := by kernel_rfl
theorem tb_zeroK_145 : zeroK Try.prog 145 = some [Value.pointer none, Value.pointer none, Value.pointer none, Value.string ByteArray.empty] := by kernel_rfl
theorem tb_bytesK_145 : bytesK Try.prog 145 = some 40 := by kernel_rfl
theorem tb_sliceElem_145 : sliceElem Try.prog 145 = none := by kernel_rfl
theorem tb_arrElem_145 : arrElem Try.prog 145 = none := by kernel_rfl
theorem tb_placesK_145 : placesK Try.prog 145 = some [(0, 1), (1, 1), (2, 1), (3, 1)] := by kernel_rfl
theorem tb_byteEl_145 : byteEl Try.prog 145 = false := by kernel_rfl
theorem tb_fieldK_145_0 : fieldK Try.prog 145 0 = some (0, false, 1) := by kernel_rfl
theorem tb_fieldK_145_1 : fieldK Try.prog 145 1 = some (1, false, 1) := by kernel_rfl
theorem tb_fieldK_145_2 : fieldK Try.prog 145 2 = some (2, false, 1) := by kernel_rfl
theorem tb_fieldK_145_3 : fieldK Try.prog 145 3 = some (3, false, 1) := by kernel_rfl
theorem tb_tk_146 : tk Try.prog 146 = TK.other := by kernel_rfl
theorem tb_loadK_146 : loadK Try.prog 146 = some (true, 4) := by kernel_rfl
theorem tb_zeroK_146 : zeroK Try.prog 146 = some [Value.pointer none, Value.pointer none, Value.pointer none, Value.string ByteArray.empty] := by kernel_rfl
theorem tb_bytesK_146 : bytesK Try.prog 146 = some 40 := by kernel_rfl
theorem tb_sliceElem_146 : sliceElem Try.prog 146 = none := by kernel_rfl
theorem tb_arrElem_146 : arrElem Try.prog 146 = none := by kernel_rfl
theorem tb_placesK_146 : placesK Try.prog 146 = some [(0, 1), (1, 1), (2, 1), (3, 1)] := by kernel_rfl
theorem tb_byteEl_146 : byteEl Try.prog 146 = false := by kernel_rfl
theorem tb_fieldK_146_0 : fieldK Try.prog 146 0 = some (0, false, 1) := by kernel_rfl
theorem tb_fieldK_146_1 : fieldK Try.prog 146 1 = some (1, false, 1) := by kernel_rfl
theorem tb_fieldK_146_2 : fieldK Try.prog 146 2 = some (2, false, 1) := by kernel_rfl
theorem tb_fieldK_146_3 : fieldK Try.prog 146 3 = some (3, false, 1) := by kernel_rfl
theorem tb_tk_147 : tk Try.prog 147 = TK.other := by kernel_rfl
theorem tb_loadK_147 : loadK Try.prog 147 = some (true, 0) := by kernel_rfl
theorem tb_zeroK_147 : zeroK Try.prog 147 = some [] := by kernel_rfl
theorem tb_bytesK_147 : bytesK Try.prog 147 = some 0 := by kernel_rfl
theorem tb_sliceElem_147 : sliceElem Try.prog 147 = none := by kernel_rfl
theorem tb_arrElem_147 : arrElem Try.prog 147 = some (0, 1) := by kernel_rfl
theorem tb_placesK_147 : placesK Try.prog 147 = some [(0, 1), (1, 1), (2, 1), (3, 1), (4, 1), (5, 1), (6, 1), (7, 1)] := by kernel_rfl
theorem tb_byteEl_147 : byteEl Try.prog 147 = false := by kernel_rfl
theorem tb_arrLoad_147 : arrLoad Try.prog 147 = some (0, false, 1) := by kernel_rfl
theorem tb_tk_148 : tk Try.prog 148 = TK.other := by kernel_rfl
theorem tb_loadK_148 : loadK Try.prog 148 = some (true, 0) := by kernel_rfl
theorem tb_zeroK_148 : zeroK Try.prog 148 = some [] := by kernel_rfl
theorem tb_bytesK_148 : bytesK Try.prog 148 = some 0 := by kernel_rfl
theorem tb_sliceElem_148 : sliceElem Try.prog 148 = none := by kernel_rfl
theorem tb_arrElem_148 : arrElem Try.prog 148 = none := by kernel_rfl
theorem tb_placesK_148 : placesK Try.prog 148 = some [(0, 0)] := by kernel_rfl
theorem tb_byteEl_148 : byteEl Try.prog 148 = false := by kernel_rfl
theorem tb_tk_149 : tk Try.prog 149 = TK.other := by kernel_rfl
theorem tb_loadK_149 : loadK Try.prog 149 = some (true, 0) := by kernel_rfl
theorem tb_zeroK_149 : zeroK Try.prog 149 = some [] := by kernel_rfl
theorem tb_bytesK_149 : bytesK Try.prog 149 = some 0 := by kernel_rfl
theorem tb_sliceElem_149 : sliceElem Try.prog 149 = none := by kernel_rfl
theorem tb_arrElem_149 : arrElem Try.prog 149 = none := by kernel_rfl
theorem tb_placesK_149 : placesK Try.prog 149 = some [(0, 0)] := by kernel_rfl
theorem tb_byteEl_149 : byteEl Try.prog 149 = false := by kernel_rfl
theorem tb_tk_150 : tk Try.prog 150 = TK.int IntKind.u8 := by kernel_rfl
theorem tb_loadK_150 : loadK Try.prog 150 = some (false, 1) := by kernel_rfl
theorem tb_zeroK_150 : zeroK Try.prog 150 = some [Value.int IntKind.u8 0] := by kernel_rfl
theorem tb_bytesK_150 : bytesK Try.prog 150 = some 1 := by kernel_rfl
theorem tb_byteEl_150 : byteEl Try.prog 150 = false := by kernel_rfl
theorem tb_tk_151 : tk Try.prog 151 = TK.int IntKind.u8 := by kernel_rfl
theorem tb_loadK_151 : loadK Try.prog 151 = some (false, 1) := by kernel_rfl
theorem tb_zeroK_151 : zeroK Try.prog 151 = some [Value.int IntKind.u8 0] := by kernel_rfl
theorem tb_bytesK_151 : bytesK Try.prog 151 = some 1 := by kernel_rfl
theorem tb_byteEl_151 : byteEl Try.prog 151 = false := by kernel_rfl
theorem tb_tk_152 : tk Try.prog 152 = TK.other := by kernel_rfl
theorem tb_loadK_152 : loadK Try.prog 152 = some (false, 1) := by kernel_rfl
theorem tb_zeroK_152 : zeroK Try.prog 152 = some [Value.nilFunc] := by kernel_rfl
theorem tb_bytesK_152 : bytesK Try.prog 152 = some 8 := by kernel_rfl
theorem tb_sliceElem_152 : sliceElem Try.prog 152 = none := by kernel_rfl
theorem tb_arrElem_152 : arrElem Try.prog 152 = none := by kernel_rfl
theorem tb_byteEl_152 : byteEl Try.prog 152 = false := by kernel_rfl
theorem tb_tk_153 : tk Try.prog 153 = TK.int IntKind.i32 := by kernel_rfl
theorem tb_loadK_153 : loadK Try.prog 153 = some (false, 1) := by kernel_rfl
theorem tb_zeroK_153 : zeroK Try.prog 153 = some [Value.int IntKind.i32 0] := by kernel_rfl
theorem tb_bytesK_153 : bytesK Try.prog 153 = some 4 := by kernel_rfl
theorem tb_byteEl_153 : byteEl Try.prog 153 = false := by kernel_rfl
theorem tb_tk_154 : tk Try.prog 154 = TK.int IntKind.i32 := by kernel_rfl
theorem tb_loadK_154 : loadK Try.prog 154 = some (false, 1) := by kernel_rfl
theorem tb_zeroK_154 : zeroK Try.prog 154 = some [Value.int IntKind.i32 0] := by kernel_rfl
theorem tb_bytesK_154 : bytesK Try.prog 154 = some 4 := by kernel_rfl
theorem tb_byteEl_154 : byteEl Try.prog 154 = false := by kernel_rfl
theorem tb_tk_155 : tk Try.prog 155 = TK.other := by kernel_rfl
theorem tb_loadK_155 : loadK Try.prog 155 = some (true, 11) := by kernel_rfl
theorem tb_zeroK_155 : zeroK Try.prog 155 = some [Value.int IntKind.u64 0, Value.int IntKind.u64 0, Value.int IntKind.u32 0, Value.int IntKind.u8 0, Value.int IntKind.u8 0, Value.int IntKind.u8 0, Value.int IntKind.u8 0, Value.nilFunc, Value.pointer none, Value.int IntKind.i32 0, Value.int IntKind.i32 0] := by kernel_rfl
theorem tb_bytesK_155 : bytesK Try.prog 155 = some 48 := by kernel_rfl
theorem tb_sliceElem_155 : sliceElem Try.prog 155 = none := by kernel_rfl
theorem tb_arrElem_155 : arrElem Try.prog 155 = none := by kernel_rfl
theorem tb_placesK_155 : placesK Try.prog 155 = some [(0, 1), (1, 1), (2, 1), (3, 1), (4, 1), (5, 1), (6, 1), (7, 1), (8, 1), (9, 1), (10, 1)] := by kernel_rfl
theorem tb_byteEl_155 : byteEl Try.prog 155 = false := by kernel_rfl
theorem tb_fieldK_155_0 : fieldK Try.prog 155 0 = some (0, false, 1) := by kernel_rfl
theorem tb_fieldK_155_1 : fieldK Try.prog 155 1 = some (1, false, 1) := by kernel_rfl
theorem tb_fieldK_155_2 : fieldK Try.prog 155 2 = some (2, false, 1) := by kernel_rfl
theorem tb_fieldK_155_3 : fieldK Try.prog 155 3 = some (3, false, 1) := by kernel_rfl
theorem tb_fieldK_155_4 : fieldK Try.prog 155 4 = some (4, false, 1) := by kernel_rfl
theorem tb_fieldK_155_5 : fieldK Try.prog 155 5 = some (5, false, 1) := by kernel_rfl
theorem tb_fieldK_155_6 : fieldK Try.prog 155 6 = some (6, false, 1) := by kernel_rfl
theorem tb_fieldK_155_7 : fieldK Try.prog 155 7 = some (7, false, 1) := by kernel_rfl
theorem tb_fieldK_155_8 : fieldK Try.prog 155 8 = some (8, false, 1) := by kernel_rfl
theorem tb_fieldK_155_9 : fieldK Try.prog 155 9 = some (9, false, 1) := by kernel_rfl
theorem tb_fieldK_155_10 : fieldK Try.prog 155 10 = some (10, false, 1) := by kernel_rfl
theorem tb_tk_156 : tk Try.prog 156 = TK.other := by kernel_rfl
theorem tb_loadK_156 : loadK Try.prog 156 = some (true, 11) := by kernel_rfl
theorem tb_zeroK_156 : zeroK Try.prog 156 = some [Value.int IntKind.u64 0, Value.int IntKind.u64 0, Value.int IntKind.u32 0, Value.int IntKind.u8 0, Value.int IntKind.u8 0, Value.int IntKind.u8 0, Value.int IntKind.u8 0, Value.nilFunc, Value.pointer none, Value.int IntKind.i32 0, Value.int IntKind.i32 0] := by kernel_rfl
theorem tb_bytesK_156 : bytesK Try.prog 156 = some 48 := by kernel_rfl
theorem tb_sliceElem_156 : sliceElem Try.prog 156 = none := by kernel_rfl
theorem tb_arrElem_156 : arrElem Try.prog 156 = none := by kernel_rfl
theorem tb_placesK_156 : placesK Try.prog 156 = some [(0, 1), (1, 1), (2, 1), (3, 1), (4, 1), (5, 1), (6, 1), (7, 1), (8, 1), (9, 1), (10, 1)] := by kernel_rfl
theorem tb_byteEl_156 : byteEl Try.prog 156 = false := by kernel_rfl
theorem tb_fieldK_156_0 : fieldK Try.prog 156 0 = some (0, false, 1) := by kernel_rfl
theorem tb_fieldK_156_1 : fieldK Try.prog 156 1 = some (1, false, 1) := by kernel_rfl
theorem tb_fieldK_156_2 : fieldK Try.prog 156 2 = some (2, false, 1) := by kernel_rfl
theorem tb_fieldK_156_3 : fieldK Try.prog 156 3 = some (3, false, 1) := by kernel_rfl
theorem tb_fieldK_156_4 : fieldK Try.prog 156 4 = some (4, false, 1) := by kernel_rfl
theorem tb_fieldK_156_5 : fieldK Try.prog 156 5 = some (5, false, 1) := by kernel_rfl
theorem tb_fieldK_156_6 : fieldK Try.prog 156 6 = some (6, false, 1) := by kernel_rfl
theorem tb_fieldK_156_7 : fieldK Try.prog 156 7 = some (7, false, 1) := by kernel_rfl
theorem tb_fieldK_156_8 : fieldK Try.prog 156 8 = some (8, false, 1) := by kernel_rfl
theorem tb_fieldK_156_9 : fieldK Try.prog 156 9 = some (9, false, 1) := by kernel_rfl
theorem tb_fieldK_156_10 : fieldK Try.prog 156 10 = some (10, false, 1) := by kernel_rfl
theorem mixed : Try.prog.follows .mixedOrders = true := by kernel_rfl
attribute [go_sem] tb_tk_0 tb_loadK_0 tb_zeroK_0 tb_bytesK_0 tb_sliceElem_0 tb_arrElem_0 tb_byteEl_0 tb_tk_1 tb_loadK_1 tb_zeroK_1 tb_bytesK_1 tb_sliceElem_1
attribute [go_sem] tb_arrElem_1 tb_byteEl_1 tb_tk_2 tb_loadK_2 tb_zeroK_2 tb_bytesK_2 tb_byteEl_2 tb_tk_3 tb_loadK_3 tb_zeroK_3 tb_bytesK_3 tb_byteEl_3
attribute [go_sem] tb_tk_4 tb_loadK_4 tb_zeroK_4 tb_bytesK_4 tb_byteEl_4 tb_tk_5 tb_loadK_5 tb_zeroK_5 tb_bytesK_5 tb_byteEl_5 tb_tk_6 tb_loadK_6
attribute [go_sem] tb_zeroK_6 tb_bytesK_6 tb_byteEl_6 tb_tk_7 tb_loadK_7 tb_zeroK_7 tb_bytesK_7 tb_sliceElem_7 tb_arrElem_7 tb_placesK_7 tb_byteEl_7 tb_flatK_7
attribute [go_sem] tb_fieldK_7_0 tb_fieldK_7_1 tb_fieldK_7_2 tb_fieldK_7_3 tb_tk_8 tb_loadK_8 tb_zeroK_8 tb_bytesK_8 tb_sliceElem_8 tb_arrElem_8 tb_placesK_8 tb_byteEl_8
attribute [go_sem] tb_flatK_8 tb_fieldK_8_0 tb_fieldK_8_1 tb_fieldK_8_2 tb_fieldK_8_3 tb_tk_9 tb_loadK_9 tb_zeroK_9 tb_bytesK_9 tb_byteEl_9 tb_arrLoad_9 tb_tk_10
attribute [go_sem] tb_loadK_10 tb_zeroK_10 tb_bytesK_10 tb_byteEl_10 tb_arrLoad_10 tb_tk_11 tb_loadK_11 tb_zeroK_11 tb_bytesK_11 tb_byteEl_11 tb_arrLoad_11 tb_tk_12
attribute [go_sem] tb_loadK_12 tb_zeroK_12 tb_bytesK_12 tb_byteEl_12 tb_tk_13 tb_loadK_13 tb_zeroK_13 tb_bytesK_13 tb_sliceElem_13 tb_arrElem_13 tb_placesK_13 tb_byteEl_13
attribute [go_sem] tb_fieldK_13_0 tb_fieldK_13_1 tb_tk_14 tb_loadK_14 tb_zeroK_14 tb_bytesK_14 tb_sliceElem_14 tb_arrElem_14 tb_placesK_14 tb_byteEl_14 tb_fieldK_14_0 tb_fieldK_14_1
attribute [go_sem] tb_tk_15 tb_loadK_15 tb_zeroK_15 tb_bytesK_15 tb_sliceElem_15 tb_arrElem_15 tb_byteEl_15 tb_tk_16 tb_loadK_16 tb_zeroK_16 tb_bytesK_16 tb_sliceElem_16
attribute [go_sem] tb_arrElem_16 tb_byteEl_16 tb_tk_17 tb_loadK_17 tb_zeroK_17 tb_bytesK_17 tb_sliceElem_17 tb_arrElem_17 tb_byteEl_17 tb_tk_18 tb_loadK_18 tb_zeroK_18
attribute [go_sem] tb_bytesK_18 tb_sliceElem_18 tb_arrElem_18 tb_placesK_18 tb_byteEl_18 tb_fieldK_18_0 tb_tk_19 tb_loadK_19 tb_zeroK_19 tb_bytesK_19 tb_sliceElem_19 tb_arrElem_19
attribute [go_sem] tb_placesK_19 tb_byteEl_19 tb_fieldK_19_0 tb_tk_20 tb_loadK_20 tb_zeroK_20 tb_bytesK_20 tb_sliceElem_20 tb_arrElem_20 tb_byteEl_20 tb_tk_21 tb_loadK_21
attribute [go_sem] tb_zeroK_21 tb_bytesK_21 tb_byteEl_21 tb_tk_22 tb_loadK_22 tb_zeroK_22 tb_bytesK_22 tb_sliceElem_22 tb_arrElem_22 tb_byteEl_22 tb_tk_23 tb_loadK_23
attribute [go_sem] tb_zeroK_23 tb_bytesK_23 tb_sliceElem_23 tb_arrElem_23 tb_byteEl_23 tb_tk_24 tb_loadK_24 tb_zeroK_24 tb_bytesK_24 tb_sliceElem_24 tb_arrElem_24 tb_placesK_24
attribute [go_sem] tb_byteEl_24 tb_fieldK_24_0 tb_fieldK_24_1 tb_tk_25 tb_loadK_25 tb_zeroK_25 tb_bytesK_25 tb_sliceElem_25 tb_arrElem_25 tb_placesK_25 tb_byteEl_25 tb_fieldK_25_0
attribute [go_sem] tb_fieldK_25_1 tb_tk_26 tb_loadK_26 tb_zeroK_26 tb_bytesK_26 tb_sliceElem_26 tb_arrElem_26 tb_byteEl_26 tb_tk_27 tb_loadK_27 tb_zeroK_27 tb_bytesK_27
attribute [go_sem] tb_sliceElem_27 tb_arrElem_27 tb_byteEl_27 tb_tk_28 tb_loadK_28 tb_zeroK_28 tb_bytesK_28 tb_sliceElem_28 tb_arrElem_28 tb_byteEl_28 tb_tk_29 tb_loadK_29
attribute [go_sem] tb_zeroK_29 tb_bytesK_29 tb_byteEl_29 tb_tk_30 tb_loadK_30 tb_zeroK_30 tb_bytesK_30 tb_sliceElem_30 tb_arrElem_30 tb_byteEl_30 tb_tk_31 tb_loadK_31
attribute [go_sem] tb_zeroK_31 tb_bytesK_31 tb_sliceElem_31 tb_arrElem_31 tb_byteEl_31 tb_tk_32 tb_loadK_32 tb_zeroK_32 tb_bytesK_32 tb_sliceElem_32 tb_arrElem_32 tb_byteEl_32
attribute [go_sem] tb_tk_33 tb_loadK_33 tb_zeroK_33 tb_bytesK_33 tb_sliceElem_33 tb_arrElem_33 tb_byteEl_33 tb_tk_34 tb_loadK_34 tb_zeroK_34 tb_bytesK_34 tb_sliceElem_34
attribute [go_sem] tb_arrElem_34 tb_byteEl_34 tb_tk_35 tb_loadK_35 tb_zeroK_35 tb_bytesK_35 tb_sliceElem_35 tb_arrElem_35 tb_byteEl_35 tb_tk_36 tb_loadK_36 tb_zeroK_36
attribute [go_sem] tb_bytesK_36 tb_sliceElem_36 tb_arrElem_36 tb_byteEl_36 tb_tk_37 tb_loadK_37 tb_zeroK_37 tb_bytesK_37 tb_sliceElem_37 tb_arrElem_37 tb_byteEl_37 tb_tk_38
attribute [go_sem] tb_loadK_38 tb_zeroK_38 tb_bytesK_38 tb_sliceElem_38 tb_arrElem_38 tb_byteEl_38 tb_tk_39 tb_loadK_39 tb_zeroK_39 tb_bytesK_39 tb_sliceElem_39 tb_arrElem_39
attribute [go_sem] tb_byteEl_39 tb_tk_40 tb_loadK_40 tb_zeroK_40 tb_bytesK_40 tb_sliceElem_40 tb_arrElem_40 tb_byteEl_40 tb_tk_41 tb_loadK_41 tb_zeroK_41 tb_bytesK_41
attribute [go_sem] tb_sliceElem_41 tb_arrElem_41 tb_byteEl_41 tb_tk_42 tb_loadK_42 tb_zeroK_42 tb_bytesK_42 tb_sliceElem_42 tb_arrElem_42 tb_byteEl_42 tb_tk_43 tb_loadK_43
attribute [go_sem] tb_zeroK_43 tb_bytesK_43 tb_sliceElem_43 tb_arrElem_43 tb_byteEl_43 tb_tk_44 tb_loadK_44 tb_zeroK_44 tb_bytesK_44 tb_sliceElem_44 tb_arrElem_44 tb_byteEl_44
attribute [go_sem] tb_tk_45 tb_loadK_45 tb_zeroK_45 tb_bytesK_45 tb_sliceElem_45 tb_arrElem_45 tb_placesK_45 tb_byteEl_45 tb_fieldK_45_0 tb_fieldK_45_1 tb_fieldK_45_2 tb_tk_46
attribute [go_sem] tb_loadK_46 tb_zeroK_46 tb_bytesK_46 tb_sliceElem_46 tb_arrElem_46 tb_placesK_46 tb_byteEl_46 tb_fieldK_46_0 tb_fieldK_46_1 tb_fieldK_46_2 tb_tk_47 tb_loadK_47
attribute [go_sem] tb_zeroK_47 tb_bytesK_47 tb_sliceElem_47 tb_arrElem_47 tb_byteEl_47 tb_tk_48 tb_loadK_48 tb_zeroK_48 tb_bytesK_48 tb_sliceElem_48 tb_arrElem_48 tb_byteEl_48
attribute [go_sem] tb_tk_49 tb_loadK_49 tb_zeroK_49 tb_bytesK_49 tb_sliceElem_49 tb_arrElem_49 tb_byteEl_49 tb_tk_50 tb_loadK_50 tb_zeroK_50 tb_bytesK_50 tb_sliceElem_50
attribute [go_sem] tb_arrElem_50 tb_byteEl_50 tb_tk_51 tb_loadK_51 tb_zeroK_51 tb_bytesK_51 tb_sliceElem_51 tb_arrElem_51 tb_byteEl_51 tb_tk_52 tb_loadK_52 tb_zeroK_52
attribute [go_sem] tb_bytesK_52 tb_sliceElem_52 tb_arrElem_52 tb_byteEl_52 tb_tk_53 tb_loadK_53 tb_zeroK_53 tb_bytesK_53 tb_sliceElem_53 tb_arrElem_53 tb_byteEl_53 tb_tk_54
attribute [go_sem] tb_loadK_54 tb_zeroK_54 tb_bytesK_54 tb_sliceElem_54 tb_arrElem_54 tb_byteEl_54 tb_tk_55 tb_loadK_55 tb_zeroK_55 tb_bytesK_55 tb_sliceElem_55 tb_arrElem_55
attribute [go_sem] tb_byteEl_55 tb_tk_56 tb_loadK_56 tb_zeroK_56 tb_bytesK_56 tb_sliceElem_56 tb_arrElem_56 tb_byteEl_56 tb_tk_57 tb_loadK_57 tb_zeroK_57 tb_bytesK_57
attribute [go_sem] tb_sliceElem_57 tb_arrElem_57 tb_byteEl_57 tb_tk_58 tb_loadK_58 tb_zeroK_58 tb_bytesK_58 tb_sliceElem_58 tb_arrElem_58 tb_byteEl_58 tb_tk_59 tb_loadK_59
attribute [go_sem] tb_zeroK_59 tb_bytesK_59 tb_sliceElem_59 tb_arrElem_59 tb_byteEl_59 tb_tk_60 tb_loadK_60 tb_zeroK_60 tb_bytesK_60 tb_sliceElem_60 tb_arrElem_60 tb_byteEl_60
attribute [go_sem] tb_tk_61 tb_loadK_61 tb_zeroK_61 tb_bytesK_61 tb_sliceElem_61 tb_arrElem_61 tb_byteEl_61 tb_tk_62 tb_loadK_62 tb_zeroK_62 tb_bytesK_62 tb_sliceElem_62
attribute [go_sem] tb_arrElem_62 tb_byteEl_62 tb_tk_63 tb_loadK_63 tb_zeroK_63 tb_bytesK_63 tb_sliceElem_63 tb_arrElem_63 tb_byteEl_63 tb_tk_64 tb_loadK_64 tb_zeroK_64
attribute [go_sem] tb_bytesK_64 tb_sliceElem_64 tb_arrElem_64 tb_byteEl_64 tb_tk_65 tb_loadK_65 tb_zeroK_65 tb_bytesK_65 tb_sliceElem_65 tb_arrElem_65 tb_byteEl_65 tb_tk_66
attribute [go_sem] tb_loadK_66 tb_zeroK_66 tb_bytesK_66 tb_sliceElem_66 tb_arrElem_66 tb_placesK_66 tb_byteEl_66 tb_fieldK_66_0 tb_fieldK_66_1 tb_tk_67 tb_loadK_67 tb_zeroK_67
attribute [go_sem] tb_bytesK_67 tb_sliceElem_67 tb_arrElem_67 tb_placesK_67 tb_byteEl_67 tb_fieldK_67_0 tb_fieldK_67_1 tb_tk_68 tb_loadK_68 tb_zeroK_68 tb_bytesK_68 tb_sliceElem_68
attribute [go_sem] tb_arrElem_68 tb_byteEl_68 tb_tk_69 tb_loadK_69 tb_zeroK_69 tb_bytesK_69 tb_sliceElem_69 tb_arrElem_69 tb_byteEl_69 tb_tk_70 tb_loadK_70 tb_zeroK_70
attribute [go_sem] tb_bytesK_70 tb_sliceElem_70 tb_arrElem_70 tb_byteEl_70 tb_tk_71 tb_loadK_71 tb_zeroK_71 tb_bytesK_71 tb_sliceElem_71 tb_arrElem_71 tb_byteEl_71 tb_tk_72
attribute [go_sem] tb_loadK_72 tb_zeroK_72 tb_bytesK_72 tb_sliceElem_72 tb_arrElem_72 tb_byteEl_72 tb_tk_73 tb_loadK_73 tb_zeroK_73 tb_bytesK_73 tb_sliceElem_73 tb_arrElem_73
attribute [go_sem] tb_byteEl_73 tb_tk_74 tb_loadK_74 tb_zeroK_74 tb_bytesK_74 tb_sliceElem_74 tb_arrElem_74 tb_byteEl_74 tb_tk_75 tb_loadK_75 tb_zeroK_75 tb_bytesK_75
attribute [go_sem] tb_sliceElem_75 tb_arrElem_75 tb_byteEl_75 tb_tk_76 tb_loadK_76 tb_zeroK_76 tb_bytesK_76 tb_sliceElem_76 tb_arrElem_76 tb_placesK_76 tb_byteEl_76 tb_fieldK_76_0
attribute [go_sem] tb_fieldK_76_1 tb_tk_77 tb_loadK_77 tb_zeroK_77 tb_bytesK_77 tb_sliceElem_77 tb_arrElem_77 tb_placesK_77 tb_byteEl_77 tb_fieldK_77_0 tb_fieldK_77_1 tb_tk_78
attribute [go_sem] tb_loadK_78 tb_zeroK_78 tb_bytesK_78 tb_sliceElem_78 tb_arrElem_78 tb_byteEl_78 tb_tk_79 tb_loadK_79 tb_zeroK_79 tb_bytesK_79 tb_sliceElem_79 tb_arrElem_79
attribute [go_sem] tb_byteEl_79 tb_tk_80 tb_loadK_80 tb_zeroK_80 tb_bytesK_80 tb_sliceElem_80 tb_arrElem_80 tb_byteEl_80 tb_tk_81 tb_loadK_81 tb_zeroK_81 tb_bytesK_81
attribute [go_sem] tb_sliceElem_81 tb_arrElem_81 tb_byteEl_81 tb_tk_82 tb_loadK_82 tb_zeroK_82 tb_bytesK_82 tb_sliceElem_82 tb_arrElem_82 tb_byteEl_82 tb_tk_83 tb_loadK_83
attribute [go_sem] tb_zeroK_83 tb_bytesK_83 tb_sliceElem_83 tb_arrElem_83 tb_byteEl_83 tb_tk_84 tb_loadK_84 tb_zeroK_84 tb_bytesK_84 tb_sliceElem_84 tb_arrElem_84 tb_byteEl_84
attribute [go_sem] tb_tk_85 tb_loadK_85 tb_zeroK_85 tb_bytesK_85 tb_sliceElem_85 tb_arrElem_85 tb_byteEl_85 tb_tk_86 tb_loadK_86 tb_zeroK_86 tb_bytesK_86 tb_sliceElem_86
attribute [go_sem] tb_arrElem_86 tb_byteEl_86 tb_tk_87 tb_loadK_87 tb_zeroK_87 tb_bytesK_87 tb_sliceElem_87 tb_arrElem_87 tb_byteEl_87 tb_tk_88 tb_loadK_88 tb_zeroK_88
attribute [go_sem] tb_bytesK_88 tb_sliceElem_88 tb_arrElem_88 tb_byteEl_88 tb_tk_89 tb_loadK_89 tb_zeroK_89 tb_bytesK_89 tb_sliceElem_89 tb_arrElem_89 tb_byteEl_89 tb_tk_90
attribute [go_sem] tb_loadK_90 tb_zeroK_90 tb_bytesK_90 tb_sliceElem_90 tb_arrElem_90 tb_byteEl_90 tb_tk_91 tb_loadK_91 tb_zeroK_91 tb_bytesK_91 tb_sliceElem_91 tb_arrElem_91
attribute [go_sem] tb_byteEl_91 tb_tk_92 tb_loadK_92 tb_zeroK_92 tb_bytesK_92 tb_sliceElem_92 tb_arrElem_92 tb_byteEl_92 tb_tk_93 tb_loadK_93 tb_zeroK_93 tb_bytesK_93
attribute [go_sem] tb_sliceElem_93 tb_arrElem_93 tb_byteEl_93 tb_tk_94 tb_loadK_94 tb_zeroK_94 tb_bytesK_94 tb_sliceElem_94 tb_arrElem_94 tb_byteEl_94 tb_tk_95 tb_loadK_95
attribute [go_sem] tb_zeroK_95 tb_bytesK_95 tb_sliceElem_95 tb_arrElem_95 tb_byteEl_95 tb_tk_96 tb_loadK_96 tb_zeroK_96 tb_bytesK_96 tb_sliceElem_96 tb_arrElem_96 tb_byteEl_96
attribute [go_sem] tb_tk_97 tb_loadK_97 tb_zeroK_97 tb_bytesK_97 tb_sliceElem_97 tb_arrElem_97 tb_byteEl_97 tb_tk_98 tb_loadK_98 tb_zeroK_98 tb_bytesK_98 tb_sliceElem_98
attribute [go_sem] tb_arrElem_98 tb_byteEl_98 tb_tk_99 tb_loadK_99 tb_zeroK_99 tb_bytesK_99 tb_sliceElem_99 tb_arrElem_99 tb_byteEl_99 tb_tk_100 tb_loadK_100 tb_zeroK_100
attribute [go_sem] tb_bytesK_100 tb_sliceElem_100 tb_arrElem_100 tb_byteEl_100 tb_tk_101 tb_loadK_101 tb_zeroK_101 tb_bytesK_101 tb_sliceElem_101 tb_arrElem_101 tb_byteEl_101 tb_tk_102
attribute [go_sem] tb_loadK_102 tb_zeroK_102 tb_bytesK_102 tb_sliceElem_102 tb_arrElem_102 tb_byteEl_102 tb_tk_103 tb_loadK_103 tb_zeroK_103 tb_bytesK_103 tb_sliceElem_103 tb_arrElem_103
attribute [go_sem] tb_byteEl_103 tb_tk_104 tb_loadK_104 tb_zeroK_104 tb_bytesK_104 tb_sliceElem_104 tb_arrElem_104 tb_byteEl_104 tb_tk_105 tb_loadK_105 tb_zeroK_105 tb_bytesK_105
attribute [go_sem] tb_sliceElem_105 tb_arrElem_105 tb_byteEl_105 tb_tk_106 tb_loadK_106 tb_zeroK_106 tb_bytesK_106 tb_sliceElem_106 tb_arrElem_106 tb_byteEl_106 tb_tk_107 tb_loadK_107
attribute [go_sem] tb_zeroK_107 tb_bytesK_107 tb_sliceElem_107 tb_arrElem_107 tb_byteEl_107 tb_tk_108 tb_loadK_108 tb_zeroK_108 tb_bytesK_108 tb_sliceElem_108 tb_arrElem_108 tb_byteEl_108
attribute [go_sem] tb_tk_109 tb_loadK_109 tb_zeroK_109 tb_bytesK_109 tb_byteEl_109 tb_tk_110 tb_loadK_110 tb_zeroK_110 tb_bytesK_110 tb_sliceElem_110 tb_arrElem_110 tb_byteEl_110
attribute [go_sem] tb_tk_111 tb_loadK_111 tb_zeroK_111 tb_bytesK_111 tb_sliceElem_111 tb_arrElem_111 tb_byteEl_111 tb_tk_112 tb_loadK_112 tb_zeroK_112 tb_bytesK_112 tb_sliceElem_112
attribute [go_sem] tb_arrElem_112 tb_byteEl_112 tb_tk_113 tb_loadK_113 tb_zeroK_113 tb_bytesK_113 tb_sliceElem_113 tb_arrElem_113 tb_byteEl_113 tb_tk_114 tb_loadK_114 tb_zeroK_114
attribute [go_sem] tb_bytesK_114 tb_sliceElem_114 tb_arrElem_114 tb_byteEl_114 tb_tk_115 tb_loadK_115 tb_zeroK_115 tb_bytesK_115 tb_sliceElem_115 tb_arrElem_115 tb_byteEl_115 tb_tk_116
attribute [go_sem] tb_loadK_116 tb_zeroK_116 tb_bytesK_116 tb_sliceElem_116 tb_arrElem_116 tb_byteEl_116 tb_tk_117 tb_loadK_117 tb_zeroK_117 tb_bytesK_117 tb_sliceElem_117 tb_arrElem_117
attribute [go_sem] tb_byteEl_117 tb_tk_118 tb_loadK_118 tb_zeroK_118 tb_bytesK_118 tb_byteEl_118 tb_tk_119 tb_loadK_119 tb_zeroK_119 tb_bytesK_119 tb_sliceElem_119 tb_arrElem_119
attribute [go_sem] tb_byteEl_119 tb_tk_120 tb_loadK_120 tb_zeroK_120 tb_bytesK_120 tb_sliceElem_120 tb_arrElem_120 tb_byteEl_120 tb_tk_121 tb_loadK_121 tb_zeroK_121 tb_bytesK_121
attribute [go_sem] tb_sliceElem_121 tb_arrElem_121 tb_byteEl_121 tb_tk_122 tb_loadK_122 tb_zeroK_122 tb_bytesK_122 tb_sliceElem_122 tb_arrElem_122 tb_byteEl_122 tb_tk_123 tb_loadK_123
attribute [go_sem] tb_zeroK_123 tb_bytesK_123 tb_sliceElem_123 tb_arrElem_123 tb_byteEl_123 tb_tk_124 tb_loadK_124 tb_zeroK_124 tb_bytesK_124 tb_sliceElem_124 tb_arrElem_124 tb_byteEl_124
attribute [go_sem] tb_tk_125 tb_loadK_125 tb_zeroK_125 tb_bytesK_125 tb_sliceElem_125 tb_arrElem_125 tb_byteEl_125 tb_tk_126 tb_loadK_126 tb_zeroK_126 tb_bytesK_126 tb_byteEl_126
attribute [go_sem] tb_tk_127 tb_loadK_127 tb_zeroK_127 tb_bytesK_127 tb_sliceElem_127 tb_arrElem_127 tb_byteEl_127 tb_tk_128 tb_loadK_128 tb_zeroK_128 tb_bytesK_128 tb_byteEl_128
attribute [go_sem] tb_tk_129 tb_loadK_129 tb_zeroK_129 tb_bytesK_129 tb_sliceElem_129 tb_arrElem_129 tb_byteEl_129 tb_tk_130 tb_loadK_130 tb_zeroK_130 tb_bytesK_130 tb_sliceElem_130
attribute [go_sem] tb_arrElem_130 tb_byteEl_130 tb_tk_131 tb_loadK_131 tb_zeroK_131 tb_bytesK_131 tb_sliceElem_131 tb_arrElem_131 tb_byteEl_131 tb_tk_132 tb_loadK_132 tb_zeroK_132
attribute [go_sem] tb_bytesK_132 tb_byteEl_132 tb_tk_133 tb_loadK_133 tb_zeroK_133 tb_bytesK_133 tb_sliceElem_133 tb_arrElem_133 tb_byteEl_133 tb_tk_134 tb_loadK_134 tb_zeroK_134
attribute [go_sem] tb_bytesK_134 tb_sliceElem_134 tb_arrElem_134 tb_byteEl_134 tb_tk_135 tb_loadK_135 tb_zeroK_135 tb_bytesK_135 tb_sliceElem_135 tb_arrElem_135 tb_byteEl_135 tb_tk_136
attribute [go_sem] tb_loadK_136 tb_zeroK_136 tb_bytesK_136 tb_sliceElem_136 tb_arrElem_136 tb_byteEl_136 tb_tk_137 tb_loadK_137 tb_zeroK_137 tb_bytesK_137 tb_sliceElem_137 tb_arrElem_137
attribute [go_sem] tb_byteEl_137 tb_tk_138 tb_loadK_138 tb_zeroK_138 tb_bytesK_138 tb_sliceElem_138 tb_arrElem_138 tb_byteEl_138 tb_tk_139 tb_loadK_139 tb_zeroK_139 tb_bytesK_139
attribute [go_sem] tb_sliceElem_139 tb_arrElem_139 tb_byteEl_139 tb_tk_140 tb_loadK_140 tb_zeroK_140 tb_bytesK_140 tb_sliceElem_140 tb_arrElem_140 tb_byteEl_140 tb_tk_141 tb_loadK_141
attribute [go_sem] tb_zeroK_141 tb_bytesK_141 tb_sliceElem_141 tb_arrElem_141 tb_byteEl_141 tb_tk_142 tb_loadK_142 tb_zeroK_142 tb_bytesK_142 tb_sliceElem_142 tb_arrElem_142 tb_byteEl_142
attribute [go_sem] tb_tk_143 tb_loadK_143 tb_zeroK_143 tb_bytesK_143 tb_sliceElem_143 tb_arrElem_143 tb_byteEl_143 tb_tk_144 tb_loadK_144 tb_zeroK_144 tb_bytesK_144 tb_sliceElem_144
attribute [go_sem] tb_arrElem_144 tb_byteEl_144 tb_tk_145 tb_loadK_145 tb_zeroK_145 tb_bytesK_145 tb_sliceElem_145 tb_arrElem_145 tb_placesK_145 tb_byteEl_145 tb_fieldK_145_0 tb_fieldK_145_1
attribute [go_sem] tb_fieldK_145_2 tb_fieldK_145_3 tb_tk_146 tb_loadK_146 tb_zeroK_146 tb_bytesK_146 tb_sliceElem_146 tb_arrElem_146 tb_placesK_146 tb_byteEl_146 tb_fieldK_146_0 tb_fieldK_146_1
attribute [go_sem] tb_fieldK_146_2 tb_fieldK_146_3 tb_tk_147 tb_loadK_147 tb_zeroK_147 tb_bytesK_147 tb_sliceElem_147 tb_arrElem_147 tb_placesK_147 tb_byteEl_147 tb_arrLoad_147 tb_tk_148
attribute [go_sem] tb_loadK_148 tb_zeroK_148 tb_bytesK_148 tb_sliceElem_148 tb_arrElem_148 tb_placesK_148 tb_byteEl_148 tb_tk_149 tb_loadK_149 tb_zeroK_149 tb_bytesK_149 tb_sliceElem_149
attribute [go_sem] tb_arrElem_149 tb_placesK_149 tb_byteEl_149 tb_tk_150 tb_loadK_150 tb_zeroK_150 tb_bytesK_150 tb_byteEl_150 tb_tk_151 tb_loadK_151 tb_zeroK_151 tb_bytesK_151
attribute [go_sem] tb_byteEl_151 tb_tk_152 tb_loadK_152 tb_zeroK_152 tb_bytesK_152 tb_sliceElem_152 tb_arrElem_152 tb_byteEl_152 tb_tk_153 tb_loadK_153 tb_zeroK_153 tb_bytesK_153
attribute [go_sem] tb_byteEl_153 tb_tk_154 tb_loadK_154 tb_zeroK_154 tb_bytesK_154 tb_byteEl_154 tb_tk_155 tb_loadK_155 tb_zeroK_155 tb_bytesK_155 tb_sliceElem_155 tb_arrElem_155
attribute [go_sem] tb_placesK_155 tb_byteEl_155 tb_fieldK_155_0 tb_fieldK_155_1 tb_fieldK_155_2 tb_fieldK_155_3 tb_fieldK_155_4 tb_fieldK_155_5 tb_fieldK_155_6 tb_fieldK_155_7 tb_fieldK_155_8 tb_fieldK_155_9
attribute [go_sem] tb_fieldK_155_10 tb_tk_156 tb_loadK_156 tb_zeroK_156 tb_bytesK_156 tb_sliceElem_156 tb_arrElem_156 tb_placesK_156 tb_byteEl_156 tb_fieldK_156_0 tb_fieldK_156_1 tb_fieldK_156_2
attribute [go_sem] tb_fieldK_156_3 tb_fieldK_156_4 tb_fieldK_156_5 tb_fieldK_156_6 tb_fieldK_156_7 tb_fieldK_156_8 tb_fieldK_156_9 tb_fieldK_156_10
end Go.Proofs.Ytgienbcekgokiaa
