import Derived.Test.YtagfopbijboajaaDoorProg
import Derived.KernelRfl
import Derived.Test.YtagfopbijboajaaDoorQX10
namespace Go.Proofs.YtagfopbijboajaaDoor
open Go Pm
theorem tb_tk_0 : tk Tryd.prog 0 = TK.other := by kernel_rfl
theorem tb_loadK_0 : loadK Tryd.prog 0 = some (false, 1) := by kernel_rfl
theorem tb_zeroK_0 : zeroK Tryd.prog 0 = some [Value.tuple { toList := [] }] := by kernel_rfl
theorem tb_bytesK_0 : bytesK Tryd.prog 0 = some 0 := by kernel_rfl
theorem tb_sliceElem_0 : sliceElem Tryd.prog 0 = none := by kernel_rfl
theorem tb_arrElem_0 : arrElem Tryd.prog 0 = none := by kernel_rfl
theorem tb_byteEl_0 : byteEl Tryd.prog 0 = false := by kernel_rfl
theorem tb_tk_1 : tk Tryd.prog 1 = TK.other := by kernel_rfl
theorem tb_loadK_1 : loadK Tryd.prog 1 = some (false, 1) := by kernel_rfl
theorem tb_zeroK_1 : zeroK Tryd.prog 1 = some [Value.nilFunc] := by kernel_rfl
theorem tb_bytesK_1 : bytesK Tryd.prog 1 = some 8 := by kernel_rfl
theorem tb_sliceElem_1 : sliceElem Tryd.prog 1 = none := by kernel_rfl
theorem tb_arrElem_1 : arrElem Tryd.prog 1 = none := by kernel_rfl
theorem tb_byteEl_1 : byteEl Tryd.prog 1 = false := by kernel_rfl
theorem tb_tk_2 : tk Tryd.prog 2 = TK.int IntKind.i64 := by kernel_rfl
theorem tb_loadK_2 : loadK Tryd.prog 2 = some (false, 1) := by kernel_rfl
theorem tb_zeroK_2 : zeroK Tryd.prog 2 = some [Value.int IntKind.i64 0] := by kernel_rfl
theorem tb_bytesK_2 : bytesK Tryd.prog 2 = some 8 := by kernel_rfl
theorem tb_byteEl_2 : byteEl Tryd.prog 2 = false := by kernel_rfl
theorem tb_tk_3 : tk Tryd.prog 3 = TK.int IntKind.i64 := by kernel_rfl
theorem tb_loadK_3 : loadK Tryd.prog 3 = some (false, 1) := by kernel_rfl
theorem tb_zeroK_3 : zeroK Tryd.prog 3 = some [Value.int IntKind.i64 0] := by kernel_rfl
theorem tb_bytesK_3 : bytesK Tryd.prog 3 = some 8 := by kernel_rfl
theorem tb_byteEl_3 : byteEl Tryd.prog 3 = false := by kernel_rfl
theorem tb_tk_4 : tk Tryd.prog 4 = TK.bool := by kernel_rfl
theorem tb_loadK_4 : loadK Tryd.prog 4 = some (false, 1) := by kernel_rfl
theorem tb_zeroK_4 : zeroK Tryd.prog 4 = some [Value.bool false] := by kernel_rfl
theorem tb_bytesK_4 : bytesK Tryd.prog 4 = some 1 := by kernel_rfl
theorem tb_byteEl_4 : byteEl Tryd.prog 4 = false := by kernel_rfl
theorem tb_tk_5 : tk Tryd.prog 5 = TK.int IntKind.u8 := by kernel_rfl
theorem tb_loadK_5 : loadK Tryd.prog 5 = some (false, 1) := by kernel_rfl
theorem tb_zeroK_5 : zeroK Tryd.prog 5 = some [Value.int IntKind.u8 0] := by kernel_rfl
theorem tb_bytesK_5 : bytesK Tryd.prog 5 = some 1 := by kernel_rfl
theorem tb_byteEl_5 : byteEl Tryd.prog 5 = false := by kernel_rfl
theorem tb_tk_6 : tk Tryd.prog 6 = TK.int IntKind.u8 := by kernel_rfl
theorem tb_loadK_6 : loadK Tryd.prog 6 = some (false, 1) := by kernel_rfl
theorem tb_zeroK_6 : zeroK Tryd.prog 6 = some [Value.int IntKind.u8 0] := by kernel_rfl
theorem tb_bytesK_6 : bytesK Tryd.prog 6 = some 1 := by kernel_rfl
theorem tb_byteEl_6 : byteEl Tryd.prog 6 = false := by kernel_rfl
theorem tb_tk_7 : tk Tryd.prog 7 = TK.other := by kernel_rfl
theorem tb_loadK_7 : loadK Tryd.prog 7 = some (true, 4) := by kernel_rfl
theorem tb_zeroK_7 : zeroK Tryd.prog 7 = some [Value.int IntKind.i64 0, Value.int IntKind.i64 0, Value.bool false, Value.int IntKind.u8 0] := by kernel_rfl
theorem tb_bytesK_7 : bytesK Tryd.prog 7 = some 24 := by kernel_rfl
theorem tb_sliceElem_7 : sliceElem Tryd.prog 7 = none := by kernel_rfl
theorem tb_arrElem_7 : arrElem Tryd.prog 7 = none := by kernel_rfl
theorem tb_placesK_7 : placesK Tryd.prog 7 = some [(0, 1), (1, 1), (2, 1), (3, 1)] := by kernel_rfl
theorem tb_byteEl_7 : byteEl Tryd.prog 7 = false := by kernel_rfl
theorem tb_flatK_7 : flatK Tryd.prog 7 = some [TypeDesc.int IntKind.i64, TypeDesc.int IntKind.i64, TypeDesc.bool, TypeDesc.int IntKind.u8] := by kernel_rfl
theorem tb_fieldK_7_0 : fieldK Tryd.prog 7 0 = some (0, false, 1) := by kernel_rfl
theorem tb_fieldK_7_1 : fieldK Tryd.prog 7 1 = some (1, false, 1) := by kernel_rfl
theorem tb_fieldK_7_2 : fieldK Tryd.prog 7 2 = some (2, false, 1) := by kernel_rfl
theorem tb_fieldK_7_3 : fieldK Tryd.prog 7 3 = some (3, false, 1) := by kernel_rfl
theorem tb_tk_8 : tk Tryd.prog 8 = TK.other := by kernel_rfl
theorem tb_loadK_8 : loadK Tryd.prog 8 = some (true, 4) := by kernel_rfl
theorem tb_zeroK_8 : zeroK Tryd.prog 8 = some [Value.int IntKind.i64 0, Value.int IntKind.i64 0, Value.bool false, Value.int IntKind.u8 0] := by kernel_rfl
theorem tb_bytesK_8 : bytesK Tryd.prog 8 = some 24 := by kernel_rfl
theorem tb_sliceElem_8 : sliceElem Tryd.prog 8 = none := by kernel_rfl
theorem tb_arrElem_8 : arrElem Tryd.prog 8 = none := by kernel_rfl
theorem tb_placesK_8 : placesK Tryd.prog 8 = some [(0, 1), (1, 1), (2, 1), (3, 1)] := by kernel_rfl
theorem tb_byteEl_8 : byteEl Tryd.prog 8 = false := by kernel_rfl
theorem tb_flatK_8 : flatK Tryd.prog 8 = some [TypeDesc.int IntKind.i64, TypeDesc.int IntKind.i64, TypeDesc.bool, TypeDesc.int IntKind.u8] := by kernel_rfl
theorem tb_fieldK_8_0 : fieldK Tryd.prog 8 0 = some (0, false, 1) := by kernel_rfl
theorem tb_fieldK_8_1 : fieldK Tryd.prog 8 1 = some (1, false, 1) := by kernel_rfl
theorem tb_fieldK_8_2 : fieldK Tryd.prog 8 2 = some (2, false, 1) := by kernel_rfl
theorem tb_fieldK_8_3 : fieldK Tryd.prog 8 3 = some (3, false, 1) := by kernel_rfl
theorem tb_tk_9 : tk Tryd.prog 9 = TK.str := by kernel_rfl
theorem tb_loadK_9 : loadK Tryd.prog 9 = some (false, 1) := by kernel_rfl
theorem tb_zeroK_9 : zeroK Tryd.prog 9 = some [Value.string ByteArray.empty] := by kernel_rfl
theorem tb_bytesK_9 : bytesK Tryd.prog 9 = some 16 := by kernel_rfl
theorem tb_byteEl_9 : byteEl Tryd.prog 9 = false := by kernel_rfl
theorem tb_arrLoad_9 : arrLoad Tryd.prog 9 = none := by kernel_rfl
theorem tb_tk_10 : tk Tryd.prog 10 = TK.str := by kernel_rfl
theorem tb_loadK_10 : loadK Tryd.prog 10 = some (false, 1) := by kernel_rfl
theorem tb_zeroK_10 : zeroK Tryd.prog 10 = some [Value.string ByteArray.empty] := by kernel_rfl
theorem tb_bytesK_10 : bytesK Tryd.prog 10 = some 16 := by kernel_rfl
theorem tb_byteEl_10 : byteEl Tryd.prog 10 = false := by kernel_rfl
theorem tb_arrLoad_10 : arrLoad Tryd.prog 10 = none := by kernel_rfl
theorem tb_tk_11 : tk Tryd.prog 11 = TK.str := by kernel_rfl
theorem tb_loadK_11 : loadK Tryd.prog 11 = some (false, 1) := by kernel_rfl
theorem tb_zeroK_11 : zeroK Tryd.prog 11 = some [Value.string ByteArray.empty] := by kernel_rfl
theorem tb_bytesK_11 : bytesK Tryd.prog 11 = some 16 := by kernel_rfl
theorem tb_byteEl_11 : byteEl Tryd.prog 11 = false := by kernel_rfl
theorem tb_arrLoad_11 : arrLoad Tryd.prog 11 = none := by kernel_rfl
theorem tb_tk_12 : tk Tryd.prog 12 = TK.int IntKind.u64 := by kernel_rfl
theorem tb_loadK_12 : loadK Tryd.prog 12 = some (false, 1) := by kernel_rfl
theorem tb_zeroK_12 : zeroK Tryd.prog 12 = some [Value.int IntKind.u64 0] := by kernel_rfl
theorem tb_bytesK_12 : bytesK Tryd.prog 12 = some 8 := by kernel_rfl
theorem tb_byteEl_12 : byteEl Tryd.prog 12 = false := by kernel_rfl
theorem tb_tk_13 : tk Tryd.prog 13 = TK.other := by kernel_rfl
theorem tb_loadK_13 : loadK Tryd.prog 13 = some (true, 2) := by kernel_rfl
theorem tb_zeroK_13 : zeroK Tryd.prog 13 = some [Value.string ByteArray.empty, Value.int IntKind.u64 0] := by kernel_rfl
theorem tb_bytesK_13 : bytesK Tryd.prog 13 = some 24 := by kernel_rfl
theorem tb_sliceElem_13 : sliceElem Tryd.prog 13 = none := by kernel_rfl
theorem tb_arrElem_13 : arrElem Tryd.prog 13 = none := by kernel_rfl
theorem tb_placesK_13 : placesK Tryd.prog 13 = some [(0, 1), (1, 1)] := by kernel_rfl
theorem tb_byteEl_13 : byteEl Tryd.prog 13 = false := by kernel_rfl
theorem tb_fieldK_13_0 : fieldK Tryd.prog 13 0 = some (0, false, 1) := by kernel_rfl
theorem tb_fieldK_13_1 : fieldK Tryd.prog 13 1 = some (1, false, 1) := by kernel_rfl
theorem tb_tk_14 : tk Tryd.prog 14 = TK.other := by kernel_rfl
theorem tb_loadK_14 : loadK Tryd.prog 14 = some (true, 2) := by kernel_rfl
theorem tb_zeroK_14 : zeroK Tryd.prog 14 = some [Value.string ByteArray.empty, Value.int IntKind.u64 0] := by kernel_rfl
theorem tb_bytesK_14 : bytesK Tryd.prog 14 = some 24 := by kernel_rfl
theorem tb_sliceElem_14 : sliceElem Tryd.prog 14 = none := by kernel_rfl
theorem tb_arrElem_14 : arrElem Tryd.prog 14 = none := by kernel_rfl
theorem tb_placesK_14 : placesK Tryd.prog 14 = some [(0, 1), (1, 1)] := by kernel_rfl
theorem tb_byteEl_14 : byteEl Tryd.prog 14 = false := by kernel_rfl
theorem tb_fieldK_14_0 : fieldK Tryd.prog 14 0 = some (0, false, 1) := by kernel_rfl
theorem tb_fieldK_14_1 : fieldK Tryd.prog 14 1 = some (1, false, 1) := by kernel_rfl
theorem tb_tk_15 : tk Tryd.prog 15 = TK.ptr := by kernel_rfl
theorem tb_loadK_15 : loadK Tryd.prog 15 = some (false, 1) := by kernel_rfl
theorem tb_zeroK_15 : zeroK Tryd.prog 15 = some [Value.pointer none] := by kernel_rfl
theorem tb_bytesK_15 : bytesK Tryd.prog 15 = some 8 := by kernel_rfl
theorem tb_sliceElem_15 : sliceElem Tryd.prog 15 = none := by kernel_rfl
theorem tb_arrElem_15 : arrElem Tryd.prog 15 = none := by kernel_rfl
theorem tb_byteEl_15 : byteEl Tryd.prog 15 = false := by kernel_rfl
theorem tb_tk_16 : tk Tryd.prog 16 = TK.ptr := by kernel_rfl
theorem tb_loadK_16 : loadK Tryd.prog 16 = some (false, 1) := by kernel_rfl
theorem tb_zeroK_16 : zeroK Tryd.prog 16 = some [Value.pointer none] := by kernel_rfl
theorem tb_bytesK_16 : bytesK Tryd.prog 16 = some 8 := by kernel_rfl
theorem tb_sliceElem_16 : sliceElem Tryd.prog 16 = none := by kernel_rfl
theorem tb_arrElem_16 : arrElem Tryd.prog 16 = none := by kernel_rfl
theorem tb_byteEl_16 : byteEl Tryd.prog 16 = false := by kernel_rfl
theorem tb_tk_17 : tk Tryd.prog 17 = TK.ptr := by kernel_rfl
theorem tb_loadK_17 : loadK Tryd.prog 17 = some (false, 1) := by kernel_rfl
theorem tb_zeroK_17 : zeroK Tryd.prog 17 = some [Value.pointer none] := by kernel_rfl
theorem tb_bytesK_17 : bytesK Tryd.prog 17 = some 8 := by kernel_rfl
theorem tb_sliceElem_17 : sliceElem Tryd.prog 17 = none := by kernel_rfl
theorem tb_arrElem_17 : arrElem Tryd.prog 17 = none := by kernel_rfl
theorem tb_byteEl_17 : byteEl Tryd.prog 17 = false := by kernel_rfl
theorem tb_tk_18 : tk Tryd.prog 18 = TK.other := by kernel_rfl
theorem tb_loadK_18 : loadK Tryd.prog 18 = some (true, 1) := by kernel_rfl
theorem tb_zeroK_18 : zeroK Tryd.prog 18 = some [Value.pointer none] := by kernel_rfl
theorem tb_bytesK_18 : bytesK Tryd.prog 18 = some 8 := by kernel_rfl
theorem tb_sliceElem_18 : sliceElem Tryd.prog 18 = none := by kernel_rfl
theorem tb_arrElem_18 : arrElem Tryd.prog 18 = none := by kernel_rfl
theorem tb_placesK_18 : placesK Tryd.prog 18 = some [(0, 1)] := by kernel_rfl
theorem tb_byteEl_18 : byteEl Tryd.prog 18 = false := by kernel_rfl
theorem tb_fieldK_18_0 : fieldK Tryd.prog 18 0 = some (0, false, 1) := by kernel_rfl
theorem tb_tk_19 : tk Tryd.prog 19 = TK.other := by kernel_rfl
theorem tb_loadK_19 : loadK Tryd.prog 19 = some (true, 1) := by kernel_rfl
theorem tb_zeroK_19 : zeroK Tryd.prog 19 = some [Value.pointer none] := by kernel_rfl
theorem tb_bytesK_19 : bytesK Tryd.prog 19 = some 8 := by kernel_rfl
theorem tb_sliceElem_19 : sliceElem Tryd.prog 19 = none := by kernel_rfl
theorem tb_arrElem_19 : arrElem Tryd.prog 19 = none := by kernel_rfl
theorem tb_placesK_19 : placesK Tryd.prog 19 = some [(0, 1)] := by kernel_rfl
theorem tb_byteEl_19 : byteEl Tryd.prog 19 = false := by kernel_rfl
theorem tb_fieldK_19_0 : fieldK Tryd.prog 19 0 = some (0, false, 1) := by kernel_rfl
theorem tb_tk_20 : tk Tryd.prog 20 = TK.other := by kernel_rfl
theorem tb_loadK_20 : loadK Tryd.prog 20 = some (false, 1) := by kernel_rfl
theorem tb_zeroK_20 : zeroK Tryd.prog 20 = some [Value.nilIface] := by kernel_rfl
theorem tb_bytesK_20 : bytesK Tryd.prog 20 = some 16 := by kernel_rfl
theorem tb_sliceElem_20 : sliceElem Tryd.prog 20 = none := by kernel_rfl
theorem tb_arrElem_20 : arrElem Tryd.prog 20 = none := by kernel_rfl
theorem tb_byteEl_20 : byteEl Tryd.prog 20 = false := by kernel_rfl
theorem tb_tk_21 : tk Tryd.prog 21 = TK.int IntKind.i32 := by kernel_rfl
theorem tb_loadK_21 : loadK Tryd.prog 21 = some (false, 1) := by kernel_rfl
theorem tb_zeroK_21 : zeroK Tryd.prog 21 = some [Value.int IntKind.i32 0] := by kernel_rfl
theorem tb_bytesK_21 : bytesK Tryd.prog 21 = some 4 := by kernel_rfl
theorem tb_byteEl_21 : byteEl Tryd.prog 21 = false := by kernel_rfl
theorem tb_tk_22 : tk Tryd.prog 22 = TK.other := by kernel_rfl
theorem tb_loadK_22 : loadK Tryd.prog 22 = some (false, 1) := by kernel_rfl
theorem tb_zeroK_22 : zeroK Tryd.prog 22 = some [Value.nilFunc] := by kernel_rfl
theorem tb_bytesK_22 : bytesK Tryd.prog 22 = some 8 := by kernel_rfl
theorem tb_sliceElem_22 : sliceElem Tryd.prog 22 = none := by kernel_rfl
theorem tb_arrElem_22 : arrElem Tryd.prog 22 = none := by kernel_rfl
theorem tb_byteEl_22 : byteEl Tryd.prog 22 = false := by kernel_rfl
theorem tb_tk_23 : tk Tryd.prog 23 = TK.int IntKind.i64 := by kernel_rfl
theorem tb_loadK_23 : loadK Tryd.prog 23 = some (false, 1) := by kernel_rfl
theorem tb_zeroK_23 : zeroK Tryd.prog 23 = some [Value.int IntKind.i64 0] := by kernel_rfl
theorem tb_bytesK_23 : bytesK Tryd.prog 23 = some 8 := by kernel_rfl
theorem tb_byteEl_23 : byteEl Tryd.prog 23 = false := by kernel_rfl
theorem tb_tk_24 : tk Tryd.prog 24 = TK.other := by kernel_rfl
theorem tb_loadK_24 : loadK Tryd.prog 24 = some (false, 1) := by kernel_rfl
theorem tb_zeroK_24 : zeroK Tryd.prog 24 = some [Value.tuple { toList := [Value.int IntKind.i64 0, Value.int IntKind.i64 0] }] := by kernel_rfl
theorem tb_bytesK_24 : bytesK Tryd.prog 24 = some 0 := by kernel_rfl
theorem tb_sliceElem_24 : sliceElem Tryd.prog 24 = none := by kernel_rfl
theorem tb_arrElem_24 : arrElem Tryd.prog 24 = none := by kernel_rfl
theorem tb_byteEl_24 : byteEl Tryd.prog 24 = false := by kernel_rfl
theorem tb_tk_25 : tk Tryd.prog 25 = TK.other := by kernel_rfl
theorem tb_loadK_25 : loadK Tryd.prog 25 = some (false, 1) := by kernel_rfl
theorem tb_zeroK_25 : zeroK Tryd.prog 25 = some [Value.nilFunc] := by kernel_rfl
theorem tb_bytesK_25 : bytesK Tryd.prog 25 = some 8 := by kernel_rfl
theorem tb_sliceElem_25 : sliceElem Tryd.prog 25 = none := by kernel_rfl
theorem tb_arrElem_25 : arrElem Tryd.prog 25 = none := by kernel_rfl
theorem tb_byteEl_25 : byteEl Tryd.prog 25 = false := by kernel_rfl
theorem tb_tk_26 : tk Tryd.prog 26 = TK.slc := by kernel_rfl
theorem tb_loadK_26 : loadK Tryd.prog 26 = some (false, 1) := by kernel_rfl
theorem tb_zeroK_26 : zeroK Tryd.prog 26 = some [Value.slice none 0 0] := by kernel_rfl
theorem tb_bytesK_26 : bytesK Tryd.prog 26 = some 24 := by kernel_rfl
theorem tb_sliceElem_26 : sliceElem Tryd.prog 26 = some (80, 2) := by kernel_rfl
theorem tb_arrElem_26 : arrElem Tryd.prog 26 = none := by kernel_rfl
theorem tb_byteEl_26 : byteEl Tryd.prog 26 = false := by kernel_rfl
theorem tb_tk_27 : tk Tryd.prog 27 = TK.other := by kernel_rfl
theorem tb_loadK_27 : loadK Tryd.prog 27 = some (true, 1) := by kernel_rfl
theorem tb_zeroK_27 : zeroK Tryd.prog 27 = some [Value.slice none 0 0] := by kernel_rfl
theorem tb_bytesK_27 : bytesK Tryd.prog 27 = some 24 := by kernel_rfl
theorem tb_sliceElem_27 : sliceElem Tryd.prog 27 = none := by kernel_rfl
theorem tb_arrElem_27 : arrElem Tryd.prog 27 = none := by kernel_rfl
theorem tb_placesK_27 : placesK Tryd.prog 27 = some [(0, 1)] := by kernel_rfl
theorem tb_byteEl_27 : byteEl Tryd.prog 27 = false := by kernel_rfl
theorem tb_fieldK_27_0 : fieldK Tryd.prog 27 0 = some (0, false, 1) := by kernel_rfl
theorem tb_tk_28 : tk Tryd.prog 28 = TK.other := by kernel_rfl
theorem tb_loadK_28 : loadK Tryd.prog 28 = some (true, 1) := by kernel_rfl
theorem tb_zeroK_28 : zeroK Tryd.prog 28 = some [Value.slice none 0 0] := by kernel_rfl
theorem tb_bytesK_28 : bytesK Tryd.prog 28 = some 24 := by kernel_rfl
theorem tb_sliceElem_28 : sliceElem Tryd.prog 28 = none := by kernel_rfl
theorem tb_arrElem_28 : arrElem Tryd.prog 28 = none := by kernel_rfl
theorem tb_placesK_28 : placesK Tryd.prog 28 = some [(0, 1)] := by kernel_rfl
theorem tb_byteEl_28 : byteEl Tryd.prog 28 = false := by kernel_rfl
theorem tb_fieldK_28_0 : fieldK Tryd.prog 28 0 = some (0, false, 1) := by kernel_rfl
theorem tb_tk_29 : tk Tryd.prog 29 = TK.slc := by kernel_rfl
theorem tb_loadK_29 : loadK Tryd.prog 29 = some (false, 1) := by kernel_rfl
theorem tb_zeroK_29 : zeroK Tryd.prog 29 = some [Value.slice none 0 0] := by kernel_rfl
theorem tb_bytesK_29 : bytesK Tryd.prog 29 = some 24 := by kernel_rfl
theorem tb_sliceElem_29 : sliceElem Tryd.prog 29 = some (77, 3) := by kernel_rfl
theorem tb_arrElem_29 : arrElem Tryd.prog 29 = none := by kernel_rfl
theorem tb_byteEl_29 : byteEl Tryd.prog 29 = false := by kernel_rfl
theorem tb_tk_30 : tk Tryd.prog 30 = TK.slc := by kernel_rfl
theorem tb_loadK_30 : loadK Tryd.prog 30 = some (false, 1) := by kernel_rfl
theorem tb_zeroK_30 : zeroK Tryd.prog 30 = some [Value.slice none 0 0] := by kernel_rfl
theorem tb_bytesK_30 : bytesK Tryd.prog 30 = some 24 := by kernel_rfl
theorem tb_sliceElem_30 : sliceElem Tryd.prog 30 = some (42, 4) := by kernel_rfl
theorem tb_arrElem_30 : arrElem Tryd.prog 30 = none := by kernel_rfl
theorem tb_byteEl_30 : byteEl Tryd.prog 30 = false := by kernel_rfl
theorem tb_tk_31 : tk Tryd.prog 31 = TK.slc := by kernel_rfl
theorem tb_loadK_31 : loadK Tryd.prog 31 = some (false, 1) := by kernel_rfl
theorem tb_zeroK_31 : zeroK Tryd.prog 31 = some [Value.slice none 0 0] := by kernel_rfl
theorem tb_bytesK_31 : bytesK Tryd.prog 31 = some 24 := by kernel_rfl
theorem tb_sliceElem_31 : sliceElem Tryd.prog 31 = some (45, 2) := by kernel_rfl
theorem tb_arrElem_31 : arrElem Tryd.prog 31 = none := by kernel_rfl
theorem tb_byteEl_31 : byteEl Tryd.prog 31 = false := by kernel_rfl
theorem tb_tk_32 : tk Tryd.prog 32 = TK.other := by kernel_rfl
theorem tb_loadK_32 : loadK Tryd.prog 32 = some (true, 4) := by kernel_rfl
theorem tb_zeroK_32 : zeroK Tryd.prog 32 = some [Value.slice none 0 0, Value.slice none 0 0, Value.slice none 0 0, Value.slice none 0 0] := by kernel_rfl
theorem tb_bytesK_32 : bytesK Tryd.prog 32 = some 96 := by kernel_rfl
theorem tb_sliceElem_32 : sliceElem Tryd.prog 32 = none := by kernel_rfl
theorem tb_arrElem_32 : arrElem Tryd.prog 32 = none := by kernel_rfl
theorem tb_placesK_32 : placesK Tryd.prog 32 = some [(0, 1), (1, 1), (2, 1), (3, 1)] := by kernel_rfl
theorem tb_byteEl_32 : byteEl Tryd.prog 32 = false := by kernel_rfl
theorem tb_fieldK_32_0 : fieldK Tryd.prog 32 0 = some (0, true, 1) := by kernel_rfl
theorem tb_fieldK_32_1 : fieldK Tryd.prog 32 1 = some (1, false, 1) := by kernel_rfl
theorem tb_fieldK_32_2 : fieldK Tryd.prog 32 2 = some (2, false, 1) := by kernel_rfl
theorem tb_fieldK_32_3 : fieldK Tryd.prog 32 3 = some (3, false, 1) := by kernel_rfl
theorem tb_tk_33 : tk Tryd.prog 33 = TK.other := by kernel_rfl
theorem tb_loadK_33 : loadK Tryd.prog 33 = some (true, 4) := by kernel_rfl
theorem tb_zeroK_33 : zeroK Tryd.prog 33 = some [Value.slice none 0 0, Value.slice none 0 0, Value.slice none 0 0, Value.slice none 0 0] := by kernel_rfl
theorem tb_bytesK_33 : bytesK Tryd.prog 33 = some 96 := by kernel_rfl
theorem tb_sliceElem_33 : sliceElem Tryd.prog 33 = none := by kernel_rfl
theorem tb_arrElem_33 : arrElem Tryd.prog 33 = none := by kernel_rfl
theorem tb_placesK_33 : placesK Tryd.prog 33 = some [(0, 1), (1, 1), (2, 1), (3, 1)] := by kernel_rfl
theorem tb_byteEl_33 : byteEl Tryd.prog 33 = false := by kernel_rfl
theorem tb_fieldK_33_0 : fieldK Tryd.prog 33 0 = some (0, true, 1) := by kernel_rfl
theorem tb_fieldK_33_1 : fieldK Tryd.prog 33 1 = some (1, false, 1) := by kernel_rfl
theorem tb_fieldK_33_2 : fieldK Tryd.prog 33 2 = some (2, false, 1) := by kernel_rfl
theorem tb_fieldK_33_3 : fieldK Tryd.prog 33 3 = some (3, false, 1) := by kernel_rfl
theorem tb_tk_34 : tk Tryd.prog 34 = TK.other := by kernel_rfl
theorem tb_loadK_34 : loadK Tryd.prog 34 = some (false, 1) := by kernel_rfl
theorem tb_zeroK_34 : zeroK Tryd.prog 34 = some [Value.nilFunc] := by kernel_rfl
theorem tb_bytesK_34 : bytesK Tryd.prog 34 = some 8 := by kernel_rfl
theorem tb_sliceElem_34 : sliceElem Tryd.prog 34 = none := by kernel_rfl
theorem tb_arrElem_34 : arrElem Tryd.prog 34 = none := by kernel_rfl
theorem tb_byteEl_34 : byteEl Tryd.prog 34 = false := by kernel_rfl
theorem tb_tk_35 : tk Tryd.prog 35 = TK.slc := by kernel_rfl
theorem tb_loadK_35 : loadK Tryd.prog 35 = some (false, 1) := by kernel_rfl
theorem tb_zeroK_35 : zeroK Tryd.prog 35 = some [Value.slice none 0 0] := by kernel_rfl
theorem tb_bytesK_35 : bytesK Tryd.prog 35 = some 24 := by kernel_rfl
theorem tb_sliceElem_35 : sliceElem Tryd.prog 35 = some (3, 1) := by kernel_rfl
theorem tb_arrElem_35 : arrElem Tryd.prog 35 = none := by kernel_rfl
theorem tb_byteEl_35 : byteEl Tryd.prog 35 = false := by kernel_rfl
theorem tb_tk_36 : tk Tryd.prog 36 = TK.other := by kernel_rfl
theorem tb_loadK_36 : loadK Tryd.prog 36 = some (false, 1) := by kernel_rfl
theorem tb_zeroK_36 : zeroK Tryd.prog 36 = some [Value.tuple { toList := [Value.slice none 0 0, Value.int IntKind.i64 0] }] := by kernel_rfl
theorem tb_bytesK_36 : bytesK Tryd.prog 36 = some 0 := by kernel_rfl
theorem tb_sliceElem_36 : sliceElem Tryd.prog 36 = none := by kernel_rfl
theorem tb_arrElem_36 : arrElem Tryd.prog 36 = none := by kernel_rfl
theorem tb_byteEl_36 : byteEl Tryd.prog 36 = false := by kernel_rfl
theorem tb_tk_37 : tk Tryd.prog 37 = TK.other := by kernel_rfl
theorem tb_loadK_37 : loadK Tryd.prog 37 = some (false, 1) := by kernel_rfl
theorem tb_zeroK_37 : zeroK Tryd.prog 37 = some [Value.nilFunc] := by kernel_rfl
theorem tb_bytesK_37 : bytesK Tryd.prog 37 = some 8 := by kernel_rfl
theorem tb_sliceElem_37 : sliceElem Tryd.prog 37 = none := by kernel_rfl
theorem tb_arrElem_37 : arrElem Tryd.prog 37 = none := by kernel_rfl
theorem tb_byteEl_37 : byteEl Tryd.prog 37 = false := by kernel_rfl
theorem tb_tk_38 : tk Tryd.prog 38 = TK.slc := by kernel_rfl
theorem tb_loadK_38 : loadK Tryd.prog 38 = some (false, 1) := by kernel_rfl
theorem tb_zeroK_38 : zeroK Tryd.prog 38 = some [Value.slice none 0 0] := by kernel_rfl
theorem tb_bytesK_38 : bytesK Tryd.prog 38 = some 24 := by kernel_rfl
theorem tb_sliceElem_38 : sliceElem Tryd.prog 38 = some (69, 3) := by kernel_rfl
theorem tb_arrElem_38 : arrElem Tryd.prog 38 = none := by kernel_rfl
theorem tb_byteEl_38 : byteEl Tryd.prog 38 = false := by kernel_rfl
theorem tb_tk_39 : tk Tryd.prog 39 = TK.other := by kernel_rfl
theorem tb_loadK_39 : loadK Tryd.prog 39 = some (false, 1) := by kernel_rfl
theorem tb_zeroK_39 : zeroK Tryd.prog 39 = some [Value.tuple { toList := [Value.slice none 0 0, Value.int IntKind.i64 0] }] := by kernel_rfl
theorem tb_bytesK_39 : bytesK Tryd.prog 39 = some 0 := by kernel_rfl
theorem tb_sliceElem_39 : sliceElem Tryd.prog 39 = none := by kernel_rfl
theorem tb_arrElem_39 : arrElem Tryd.prog 39 = none := by kernel_rfl
theorem tb_byteEl_39 : byteEl Tryd.prog 39 = false := by kernel_rfl
theorem tb_tk_42 : tk Tryd.prog 42 = TK.other := by kernel_rfl
theorem tb_loadK_42 : loadK Tryd.prog 42 = some (true, 4) := by kernel_rfl
theorem tb_zeroK_42 : zeroK Tryd.prog 42 = some [Value.int IntKind.i64 0, Value.int IntKind.i64 0, Value.int IntKind.i64 0, Value.int IntKind.i64 0] := by kernel_rfl
theorem tb_bytesK_42 : bytesK Tryd.prog 42 = some 32 := by kernel_rfl
theorem tb_sliceElem_42 : sliceElem Tryd.prog 42 = none := by kernel_rfl
theorem tb_arrElem_42 : arrElem Tryd.prog 42 = none := by kernel_rfl
theorem tb_placesK_42 : placesK Tryd.prog 42 = some [(0, 1), (1, 1), (2, 1), (3, 1)] := by kernel_rfl
theorem tb_byteEl_42 : byteEl Tryd.prog 42 = false := by kernel_rfl
theorem tb_flatK_42 : flatK Tryd.prog 42 = some [TypeDesc.int IntKind.i64, TypeDesc.int IntKind.i64, TypeDesc.int IntKind.i64, TypeDesc.int IntKind.i64] := by kernel_rfl
theorem tb_fieldK_42_0 : fieldK Tryd.prog 42 0 = some (0, false, 1) := by kernel_rfl
theorem tb_fieldK_42_1 : fieldK Tryd.prog 42 1 = some (1, false, 1) := by kernel_rfl
theorem tb_fieldK_42_2 : fieldK Tryd.prog 42 2 = some (2, false, 1) := by kernel_rfl
theorem tb_fieldK_42_3 : fieldK Tryd.prog 42 3 = some (3, false, 1) := by kernel_rfl
theorem tb_tk_43 : tk Tryd.prog 43 = TK.slc := by kernel_rfl
theorem tb_loadK_43 : loadK Tryd.prog 43 = some (false, 1) := by kernel_rfl
theorem tb_zeroK_43 : zeroK Tryd.prog 43 = some [Value.slice none 0 0] := by kernel_rfl
theorem tb_bytesK_43 : bytesK Tryd.prog 43 = some 24 := by kernel_rfl
theorem tb_sliceElem_43 : sliceElem Tryd.prog 43 = some (46, 1) := by kernel_rfl
theorem tb_arrElem_43 : arrElem Tryd.prog 43 = none := by kernel_rfl
theorem tb_byteEl_43 : byteEl Tryd.prog 43 = false := by kernel_rfl
theorem tb_tk_44 : tk Tryd.prog 44 = TK.other := by kernel_rfl
theorem tb_loadK_44 : loadK Tryd.prog 44 = some (true, 2) := by kernel_rfl
theorem tb_zeroK_44 : zeroK Tryd.prog 44 = some [Value.bool false, Value.slice none 0 0] := by kernel_rfl
theorem tb_bytesK_44 : bytesK Tryd.prog 44 = some 32 := by kernel_rfl
theorem tb_sliceElem_44 : sliceElem Tryd.prog 44 = none := by kernel_rfl
theorem tb_arrElem_44 : arrElem Tryd.prog 44 = none := by kernel_rfl
theorem tb_placesK_44 : placesK Tryd.prog 44 = some [(0, 1), (1, 1)] := by kernel_rfl
theorem tb_byteEl_44 : byteEl Tryd.prog 44 = false := by kernel_rfl
theorem tb_fieldK_44_0 : fieldK Tryd.prog 44 0 = some (0, false, 1) := by kernel_rfl
theorem tb_fieldK_44_1 : fieldK Tryd.prog 44 1 = some (1, false, 1) := by kernel_rfl
theorem tb_tk_45 : tk Tryd.prog 45 = TK.other := by kernel_rfl
theorem tb_loadK_45 : loadK Tryd.prog 45 = some (true, 2) := by kernel_rfl
theorem tb_zeroK_45 : zeroK Tryd.prog 45 = some [Value.bool false, Value.slice none 0 0] := by kernel_rfl
theorem tb_bytesK_45 : bytesK Tryd.prog 45 = some 32 := by kernel_rfl
theorem tb_sliceElem_45 : sliceElem Tryd.prog 45 = none := by kernel_rfl
theorem tb_arrElem_45 : arrElem Tryd.prog 45 = none := by kernel_rfl
theorem tb_placesK_45 : placesK Tryd.prog 45 = some [(0, 1), (1, 1)] := by kernel_rfl
theorem tb_byteEl_45 : byteEl Tryd.prog 45 = false := by kernel_rfl
theorem tb_fieldK_45_0 : fieldK Tryd.prog 45 0 = some (0, false, 1) := by kernel_rfl
theorem tb_fieldK_45_1 : fieldK Tryd.prog 45 1 = some (1, false, 1) := by kernel_rfl
theorem tb_tk_46 : tk Tryd.prog 46 = TK.slc := by kernel_rfl
theorem tb_loadK_46 : loadK Tryd.prog 46 = some (false, 1) := by kernel_rfl
theorem tb_zeroK_46 : zeroK Tryd.prog 46 = some [Value.slice none 0 0] := by kernel_rfl
theorem tb_bytesK_46 : bytesK Tryd.prog 46 = some 24 := by kernel_rfl
theorem tb_sliceElem_46 : sliceElem Tryd.prog 46 = some (9, 1) := by kernel_rfl
theorem tb_arrElem_46 : arrElem Tryd.prog 46 = none := by kernel_rfl
theorem tb_byteEl_46 : byteEl Tryd.prog 46 = false := by kernel_rfl
theorem tb_tk_47 : tk Tryd.prog 47 = TK.other := by kernel_rfl
theorem tb_loadK_47 : loadK Tryd.prog 47 = some (false, 1) := by kernel_rfl
theorem tb_zeroK_47 : zeroK Tryd.prog 47 = some [Value.tuple { toList := [Value.slice none 0 0, Value.int IntKind.i64 0] }] := by kernel_rfl
theorem tb_bytesK_47 : bytesK Tryd.prog 47 = some 0 := by kernel_rfl
theorem tb_sliceElem_47 : sliceElem Tryd.prog 47 = none := by kernel_rfl
theorem tb_arrElem_47 : arrElem Tryd.prog 47 = none := by kernel_rfl
theorem tb_byteEl_47 : byteEl Tryd.prog 47 = false := by kernel_rfl
theorem tb_tk_48 : tk Tryd.prog 48 = TK.other := by kernel_rfl
theorem tb_loadK_48 : loadK Tryd.prog 48 = some (false, 1) := by kernel_rfl
theorem tb_zeroK_48 : zeroK Tryd.prog 48 = some [Value.nilFunc] := by kernel_rfl
theorem tb_bytesK_48 : bytesK Tryd.prog 48 = some 8 := by kernel_rfl
theorem tb_sliceElem_48 : sliceElem Tryd.prog 48 = none := by kernel_rfl
theorem tb_arrElem_48 : arrElem Tryd.prog 48 = none := by kernel_rfl
theorem tb_byteEl_48 : byteEl Tryd.prog 48 = false := by kernel_rfl
theorem tb_tk_49 : tk Tryd.prog 49 = TK.slc := by kernel_rfl
theorem tb_loadK_49 : loadK Tryd.prog 49 = some (false, 1) := by kernel_rfl
theorem tb_zeroK_49 : zeroK Tryd.prog 49 = some [Value.slice none 0 0] := by kernel_rfl
theorem tb_bytesK_49 : bytesK Tryd.prog 49 = some 24 := by kernel_rfl
theorem tb_sliceElem_49 : sliceElem Tryd.prog 49 = some (98, 6) := by kernel_rfl
theorem tb_arrElem_49 : arrElem Tryd.prog 49 = none := by kernel_rfl
theorem tb_byteEl_49 : byteEl Tryd.prog 49 = false := by kernel_rfl
theorem tb_tk_50 : tk Tryd.prog 50 = TK.other := by kernel_rfl
theorem tb_loadK_50 : loadK Tryd.prog 50 = some (false, 1) := by kernel_rfl
theorem tb_zeroK_50 : zeroK Tryd.prog 50 = some [Value.tuple { toList := [Value.slice none 0 0, Value.int IntKind.i64 0] }] := by kernel_rfl
theorem tb_bytesK_50 : bytesK Tryd.prog 50 = some 0 := by kernel_rfl
theorem tb_sliceElem_50 : sliceElem Tryd.prog 50 = none := by kernel_rfl
theorem tb_arrElem_50 : arrElem Tryd.prog 50 = none := by kernel_rfl
theorem tb_byteEl_50 : byteEl Tryd.prog 50 = false := by kernel_rfl
theorem tb_tk_51 : tk Tryd.prog 51 = TK.other := by kernel_rfl
theorem tb_loadK_51 : loadK Tryd.prog 51 = some (false, 1) := by kernel_rfl
theorem tb_zeroK_51 : zeroK Tryd.prog 51 = some [Value.nilFunc] := by kernel_rfl
theorem tb_bytesK_51 : bytesK Tryd.prog 51 = some 8 := by kernel_rfl
theorem tb_sliceElem_51 : sliceElem Tryd.prog 51 = none := by kernel_rfl
theorem tb_arrElem_51 : arrElem Tryd.prog 51 = none := by kernel_rfl
theorem tb_byteEl_51 : byteEl Tryd.prog 51 = false := by kernel_rfl
theorem tb_tk_52 : tk Tryd.prog 52 = TK.other := by kernel_rfl
theorem tb_loadK_52 : loadK Tryd.prog 52 = some (true, 2) := by kernel_rfl
theorem tb_zeroK_52 : zeroK Tryd.prog 52 = some [Value.int IntKind.i64 0, Value.int IntKind.u8 0] := by kernel_rfl
theorem tb_bytesK_52 : bytesK Tryd.prog 52 = some 16 := by kernel_rfl
theorem tb_sliceElem_52 : sliceElem Tryd.prog 52 = none := by kernel_rfl
theorem tb_arrElem_52 : arrElem Tryd.prog 52 = none := by kernel_rfl
theorem tb_placesK_52 : placesK Tryd.prog 52 = some [(0, 1), (1, 1)] := by kernel_rfl
theorem tb_byteEl_52 : byteEl Tryd.prog 52 = false := by kernel_rfl
theorem tb_flatK_52 : flatK Tryd.prog 52 = some [TypeDesc.int IntKind.i64, TypeDesc.int IntKind.u8] := by kernel_rfl
theorem tb_fieldK_52_0 : fieldK Tryd.prog 52 0 = some (0, false, 1) := by kernel_rfl
theorem tb_fieldK_52_1 : fieldK Tryd.prog 52 1 = some (1, false, 1) := by kernel_rfl
theorem tb_tk_53 : tk Tryd.prog 53 = TK.other := by kernel_rfl
theorem tb_loadK_53 : loadK Tryd.prog 53 = some (true, 2) := by kernel_rfl
theorem tb_zeroK_53 : zeroK Tryd.prog 53 = some [Value.int IntKind.i64 0, Value.int IntKind.u8 0] := by kernel_rfl
theorem tb_bytesK_53 : bytesK Tryd.prog 53 = some 16 := by kernel_rfl
theorem tb_sliceElem_53 : sliceElem Tryd.prog 53 = none := by kernel_rfl
theorem tb_arrElem_53 : arrElem Tryd.prog 53 = none := by kernel_rfl
theorem tb_placesK_53 : placesK Tryd.prog 53 = some [(0, 1), (1, 1)] := by kernel_rfl
theorem tb_byteEl_53 : byteEl Tryd.prog 53 = false := by kernel_rfl
theorem tb_flatK_53 : flatK Tryd.prog 53 = some [TypeDesc.int IntKind.i64, TypeDesc.int IntKind.u8] := by kernel_rfl
theorem tb_fieldK_53_0 : fieldK Tryd.prog 53 0 = some (0, false, 1) := by kernel_rfl
theorem tb_fieldK_53_1 : fieldK Tryd.prog 53 1 = some (1, false, 1) := by kernel_rfl
theorem tb_tk_54 : tk Tryd.prog 54 = TK.other := by kernel_rfl
theorem tb_loadK_54 : loadK Tryd.prog 54 = some (false, 1) := by kernel_rfl
theorem tb_zeroK_54 : zeroK Tryd.prog 54 = some [Value.tuple { toList := [Value.slice none 0 0, Value.int IntKind.i64 0, Value.int IntKind.i64 0] }] := by kernel_rfl
theorem tb_bytesK_54 : bytesK Tryd.prog 54 = some 0 := by kernel_rfl
theorem tb_sliceElem_54 : sliceElem Tryd.prog 54 = none := by kernel_rfl
theorem tb_arrElem_54 : arrElem Tryd.prog 54 = none := by kernel_rfl
theorem tb_byteEl_54 : byteEl Tryd.prog 54 = false := by kernel_rfl
theorem tb_tk_57 : tk Tryd.prog 57 = TK.other := by kernel_rfl
theorem tb_loadK_57 : loadK Tryd.prog 57 = some (false, 1) := by kernel_rfl
theorem tb_zeroK_57 : zeroK Tryd.prog 57 = some [Value.nilFunc] := by kernel_rfl
theorem tb_bytesK_57 : bytesK Tryd.prog 57 = some 8 := by kernel_rfl
theorem tb_sliceElem_57 : sliceElem Tryd.prog 57 = none := by kernel_rfl
theorem tb_arrElem_57 : arrElem Tryd.prog 57 = none := by kernel_rfl
theorem tb_byteEl_57 : byteEl Tryd.prog 57 = false := by kernel_rfl
theorem tb_tk_58 : tk Tryd.prog 58 = TK.slc := by kernel_rfl
theorem tb_loadK_58 : loadK Tryd.prog 58 = some (false, 1) := by kernel_rfl
theorem tb_zeroK_58 : zeroK Tryd.prog 58 = some [Value.slice none 0 0] := by kernel_rfl
theorem tb_bytesK_58 : bytesK Tryd.prog 58 = some 24 := by kernel_rfl
theorem tb_sliceElem_58 : sliceElem Tryd.prog 58 = some (66, 2) := by kernel_rfl
theorem tb_arrElem_58 : arrElem Tryd.prog 58 = none := by kernel_rfl
theorem tb_byteEl_58 : byteEl Tryd.prog 58 = false := by kernel_rfl
theorem tb_tk_59 : tk Tryd.prog 59 = TK.other := by kernel_rfl
theorem tb_loadK_59 : loadK Tryd.prog 59 = some (false, 1) := by kernel_rfl
theorem tb_zeroK_59 : zeroK Tryd.prog 59 = some [Value.tuple { toList := [Value.slice none 0 0, Value.int IntKind.i64 0] }] := by kernel_rfl
theorem tb_bytesK_59 : bytesK Tryd.prog 59 = some 0 := by kernel_rfl
theorem tb_sliceElem_59 : sliceElem Tryd.prog 59 = none := by kernel_rfl
theorem tb_arrElem_59 : arrElem Tryd.prog 59 = none := by kernel_rfl
theorem tb_byteEl_59 : byteEl Tryd.prog 59 = false := by kernel_rfl
theorem tb_tk_60 : tk Tryd.prog 60 = TK.other := by kernel_rfl
theorem tb_loadK_60 : loadK Tryd.prog 60 = some (false, 1) := by kernel_rfl
theorem tb_zeroK_60 : zeroK Tryd.prog 60 = some [Value.nilFunc] := by kernel_rfl
theorem tb_bytesK_60 : bytesK Tryd.prog 60 = some 8 := by kernel_rfl
theorem tb_sliceElem_60 : sliceElem Tryd.prog 60 = none := by kernel_rfl
theorem tb_arrElem_60 : arrElem Tryd.prog 60 = none := by kernel_rfl
theorem tb_byteEl_60 : byteEl Tryd.prog 60 = false := by kernel_rfl
theorem tb_tk_61 : tk Tryd.prog 61 = TK.other := by kernel_rfl
theorem tb_loadK_61 : loadK Tryd.prog 61 = some (false, 1) := by kernel_rfl
theorem tb_zeroK_61 : zeroK Tryd.prog 61 = some [Value.tuple { toList := [Value.slice none 0 0, Value.slice none 0 0, Value.int IntKind.i64 0] }] := by kernel_rfl
theorem tb_bytesK_61 : bytesK Tryd.prog 61 = some 0 := by kernel_rfl
theorem tb_sliceElem_61 : sliceElem Tryd.prog 61 = none := by kernel_rfl
theorem tb_arrElem_61 : arrElem Tryd.prog 61 = none := by kernel_rfl
theorem tb_byteEl_61 : byteEl Tryd.prog 61 = false := by kernel_rfl
theorem tb_tk_62 : tk Tryd.prog 62 = TK.other := by kernel_rfl
theorem tb_loadK_62 : loadK Tryd.prog 62 = some (false, 1) := by kernel_rfl
theorem tb_zeroK_62 : zeroK Tryd.prog 62 = some [Value.nilFunc] := by kernel_rfl
theorem tb_bytesK_62 : bytesK Tryd.prog 62 = some 8 := by kernel_rfl
theorem tb_sliceElem_62 : sliceElem Tryd.prog 62 = none := by kernel_rfl
theorem tb_arrElem_62 : arrElem Tryd.prog 62 = none := by kernel_rfl
theorem tb_byteEl_62 : byteEl Tryd.prog 62 = false := by kernel_rfl
theorem tb_tk_63 : tk Tryd.prog 63 = TK.other := by kernel_rfl
theorem tb_loadK_63 : loadK Tryd.prog 63 = some (false, 1) := by kernel_rfl
theorem tb_zeroK_63 : zeroK Tryd.prog 63 = some [Value.nilFunc] := by kernel_rfl
theorem tb_bytesK_63 : bytesK Tryd.prog 63 = some 8 := by kernel_rfl
theorem tb_sliceElem_63 : sliceElem Tryd.prog 63 = none := by kernel_rfl
theorem tb_arrElem_63 : arrElem Tryd.prog 63 = none := by kernel_rfl
theorem tb_byteEl_63 : byteEl Tryd.prog 63 = false := by kernel_rfl
theorem tb_tk_66 : tk Tryd.prog 66 = TK.other := by kernel_rfl
theorem tb_loadK_66 : loadK Tryd.prog 66 = some (true, 2) := by kernel_rfl
theorem tb_zeroK_66 : zeroK Tryd.prog 66 = some [Value.int IntKind.i64 0, Value.int IntKind.i64 0] := by kernel_rfl
theorem tb_bytesK_66 : bytesK Tryd.prog 66 = some 16 := by kernel_rfl
theorem tb_sliceElem_66 : sliceElem Tryd.prog 66 = none := by kernel_rfl
theorem tb_arrElem_66 : arrElem Tryd.prog 66 = some (2, 1) := by kernel_rfl
theorem tb_placesK_66 : placesK Tryd.prog 66 = some [(0, 1), (1, 1), (2, 1), (3, 1), (4, 1), (5, 1), (6, 1), (7, 1)] := by kernel_rfl
theorem tb_byteEl_66 : byteEl Tryd.prog 66 = false := by kernel_rfl
theorem tb_flatK_66 : flatK Tryd.prog 66 = some [TypeDesc.int IntKind.i64, TypeDesc.int IntKind.i64] := by kernel_rfl
theorem tb_arrLoad_66 : arrLoad Tryd.prog 66 = some (2, false, 1) := by kernel_rfl
theorem tb_tk_67 : tk Tryd.prog 67 = TK.other := by kernel_rfl
theorem tb_loadK_67 : loadK Tryd.prog 67 = some (false, 1) := by kernel_rfl
theorem tb_zeroK_67 : zeroK Tryd.prog 67 = some [Value.nilFunc] := by kernel_rfl
theorem tb_bytesK_67 : bytesK Tryd.prog 67 = some 8 := by kernel_rfl
theorem tb_sliceElem_67 : sliceElem Tryd.prog 67 = none := by kernel_rfl
theorem tb_arrElem_67 : arrElem Tryd.prog 67 = none := by kernel_rfl
theorem tb_byteEl_67 : byteEl Tryd.prog 67 = false := by kernel_rfl
theorem tb_tk_68 : tk Tryd.prog 68 = TK.other := by kernel_rfl
theorem tb_loadK_68 : loadK Tryd.prog 68 = some (true, 3) := by kernel_rfl
theorem tb_zeroK_68 : zeroK Tryd.prog 68 = some [Value.int IntKind.u8 0, Value.int IntKind.i64 0, Value.int IntKind.i64 0] := by kernel_rfl
theorem tb_bytesK_68 : bytesK Tryd.prog 68 = some 24 := by kernel_rfl
theorem tb_sliceElem_68 : sliceElem Tryd.prog 68 = none := by kernel_rfl
theorem tb_arrElem_68 : arrElem Tryd.prog 68 = none := by kernel_rfl
theorem tb_placesK_68 : placesK Tryd.prog 68 = some [(0, 1), (1, 1), (2, 1)] := by kernel_rfl
theorem tb_byteEl_68 : byteEl Tryd.prog 68 = false := by kernel_rfl
theorem tb_flatK_68 : flatK Tryd.prog 68 = some [TypeDesc.int IntKind.u8, TypeDesc.int IntKind.i64, TypeDesc.int IntKind.i64] := by kernel_rfl
theorem tb_fieldK_68_0 : fieldK Tryd.prog 68 0 = some (0, false, 1) := by kernel_rfl
theorem tb_fieldK_68_1 : fieldK Tryd.prog 68 1 = some (1, false, 1) := by kernel_rfl
theorem tb_fieldK_68_2 : fieldK Tryd.prog 68 2 = some (2, false, 1) := by kernel_rfl
theorem tb_tk_69 : tk Tryd.prog 69 = TK.other := by kernel_rfl
theorem tb_loadK_69 : loadK Tryd.prog 69 = some (true, 3) := by kernel_rfl
theorem tb_zeroK_69 : zeroK Tryd.prog 69 = some [Value.int IntKind.u8 0, Value.int IntKind.i64 0, Value.int IntKind.i64 0] := by kernel_rfl
theorem tb_bytesK_69 : bytesK Tryd.prog 69 = some 24 := by kernel_rfl
theorem tb_sliceElem_69 : sliceElem Tryd.prog 69 = none := by kernel_rfl
theorem tb_arrElem_69 : arrElem Tryd.prog 69 = none := by kernel_rfl
theorem tb_placesK_69 : placesK Tryd.prog 69 = some [(0, 1), (1, 1), (2, 1)] := by kernel_rfl
theorem tb_byteEl_69 : byteEl Tryd.prog 69 = false := by kernel_rfl
theorem tb_flatK_69 : flatK Tryd.prog 69 = some [TypeDesc.int IntKind.u8, TypeDesc.int IntKind.i64, TypeDesc.int IntKind.i64] := by kernel_rfl
theorem tb_fieldK_69_0 : fieldK Tryd.prog 69 0 = some (0, false, 1) := by kernel_rfl
theorem tb_fieldK_69_1 : fieldK Tryd.prog 69 1 = some (1, false, 1) := by kernel_rfl
theorem tb_fieldK_69_2 : fieldK Tryd.prog 69 2 = some (2, false, 1) := by kernel_rfl
theorem tb_tk_70 : tk Tryd.prog 70 = TK.ptr := by kernel_rfl
theorem tb_loadK_70 : loadK Tryd.prog 70 = some (false, 1) := by kernel_rfl
theorem tb_zeroK_70 : zeroK Tryd.prog 70 = some [Value.pointer none] := by kernel_rfl
theorem tb_bytesK_70 : bytesK Tryd.prog 70 = some 8 := by kernel_rfl
theorem tb_sliceElem_70 : sliceElem Tryd.prog 70 = none := by kernel_rfl
theorem tb_arrElem_70 : arrElem Tryd.prog 70 = none := by kernel_rfl
theorem tb_byteEl_70 : byteEl Tryd.prog 70 = false := by kernel_rfl
theorem tb_tk_71 : tk Tryd.prog 71 = TK.other := by kernel_rfl
theorem tb_loadK_71 : loadK Tryd.prog 71 = some (false, 1) := by kernel_rfl
theorem tb_zeroK_71 : zeroK Tryd.prog 71 = some [Value.tuple { toList := [Value.pointer none, Value.int IntKind.i64 0] }] := by kernel_rfl
theorem tb_bytesK_71 : bytesK Tryd.prog 71 = some 0 := by kernel_rfl
theorem tb_sliceElem_71 : sliceElem Tryd.prog 71 = none := by kernel_rfl
theorem tb_arrElem_71 : arrElem Tryd.prog 71 = none := by kernel_rfl
theorem tb_byteEl_71 : byteEl Tryd.prog 71 = false := by kernel_rfl
theorem tb_tk_73 : tk Tryd.prog 73 = TK.slc := by kernel_rfl
theorem tb_loadK_73 : loadK Tryd.prog 73 = some (false, 1) := by kernel_rfl
theorem tb_zeroK_73 : zeroK Tryd.prog 73 = some [Value.slice none 0 0] := by kernel_rfl
theorem tb_bytesK_73 : bytesK Tryd.prog 73 = some 24 := by kernel_rfl
theorem tb_sliceElem_73 : sliceElem Tryd.prog 73 = some (96, 3) := by kernel_rfl
theorem tb_arrElem_73 : arrElem Tryd.prog 73 = none := by kernel_rfl
theorem tb_byteEl_73 : byteEl Tryd.prog 73 = false := by kernel_rfl
theorem tb_tk_75 : tk Tryd.prog 75 = TK.other := by kernel_rfl
theorem tb_loadK_75 : loadK Tryd.prog 75 = some (true, 6) := by kernel_rfl
theorem tb_zeroK_75 : zeroK Tryd.prog 75 = some [Value.slice none 0 0, Value.slice none 0 0, Value.slice none 0 0, Value.slice none 0 0, Value.slice none 0 0, Value.slice none 0 0] := by kernel_rfl
theorem tb_bytesK_75 : bytesK Tryd.prog 75 = some 144 := by kernel_rfl
theorem tb_sliceElem_75 : sliceElem Tryd.prog 75 = none := by kernel_rfl
theorem tb_arrElem_75 : arrElem Tryd.prog 75 = none := by kernel_rfl
theorem tb_placesK_75 : placesK Tryd.prog 75 = some [(0, 4), (4, 1), (5, 1)] := by kernel_rfl
theorem tb_byteEl_75 : byteEl Tryd.prog 75 = false := by kernel_rfl
theorem tb_fieldK_75_0 : fieldK Tryd.prog 75 0 = some (0, true, 4) := by kernel_rfl
theorem tb_fieldK_75_1 : fieldK Tryd.prog 75 1 = some (4, false, 1) := by kernel_rfl
theorem tb_fieldK_75_2 : fieldK Tryd.prog 75 2 = some (5, false, 1) := by kernel_rfl
theorem tb_tk_76 : tk Tryd.prog 76 = TK.other := by kernel_rfl
theorem tb_loadK_76 : loadK Tryd.prog 76 = some (true, 3) := by kernel_rfl
theorem tb_zeroK_76 : zeroK Tryd.prog 76 = some [Value.int IntKind.i64 0, Value.int IntKind.i64 0, Value.int IntKind.i64 0] := by kernel_rfl
theorem tb_bytesK_76 : bytesK Tryd.prog 76 = some 24 := by kernel_rfl
theorem tb_sliceElem_76 : sliceElem Tryd.prog 76 = none := by kernel_rfl
theorem tb_arrElem_76 : arrElem Tryd.prog 76 = none := by kernel_rfl
theorem tb_placesK_76 : placesK Tryd.prog 76 = some [(0, 1), (1, 1), (2, 1)] := by kernel_rfl
theorem tb_byteEl_76 : byteEl Tryd.prog 76 = false := by kernel_rfl
theorem tb_flatK_76 : flatK Tryd.prog 76 = some [TypeDesc.int IntKind.i64, TypeDesc.int IntKind.i64, TypeDesc.int IntKind.i64] := by kernel_rfl
theorem tb_fieldK_76_0 : fieldK Tryd.prog 76 0 = some (0, false, 1) := by kernel_rfl
theorem tb_fieldK_76_1 : fieldK Tryd.prog 76 1 = some (1, false, 1) := by kernel_rfl
theorem tb_fieldK_76_2 : fieldK Tryd.prog 76 2 = some (2, false, 1) := by kernel_rfl
theorem tb_tk_77 : tk Tryd.prog 77 = TK.other := by kernel_rfl
theorem tb_loadK_77 : loadK Tryd.prog 77 = some (true, 3) := by kernel_rfl
theorem tb_zeroK_77 : zeroK Tryd.prog 77 = some [Value.int IntKind.i64 0, Value.int IntKind.i64 0, Value.int IntKind.i64 0] := by kernel_rfl
theorem tb_bytesK_77 : bytesK Tryd.prog 77 = some 24 := by kernel_rfl
theorem tb_sliceElem_77 : sliceElem Tryd.prog 77 = none := by kernel_rfl
theorem tb_arrElem_77 : arrElem Tryd.prog 77 = none := by kernel_rfl
theorem tb_placesK_77 : placesK Tryd.prog 77 = some [(0, 1), (1, 1), (2, 1)] := by kernel_rfl
theorem tb_byteEl_77 : byteEl Tryd.prog 77 = false := by kernel_rfl
theorem tb_flatK_77 : flatK Tryd.prog 77 = some [TypeDesc.int IntKind.i64, TypeDesc.int IntKind.i64, TypeDesc.int IntKind.i64] := by kernel_rfl
theorem tb_fieldK_77_0 : fieldK Tryd.prog 77 0 = some (0, false, 1) := by kernel_rfl
theorem tb_fieldK_77_1 : fieldK Tryd.prog 77 1 = some (1, false, 1) := by kernel_rfl
theorem tb_fieldK_77_2 : fieldK Tryd.prog 77 2 = some (2, false, 1) := by kernel_rfl
theorem tb_tk_78 : tk Tryd.prog 78 = TK.other := by kernel_rfl
theorem tb_loadK_78 : loadK Tryd.prog 78 = some (false, 1) := by kernel_rfl
theorem tb_zeroK_78 : zeroK Tryd.prog 78 = some [Value.nilFunc] := by kernel_rfl
theorem tb_bytesK_78 : bytesK Tryd.prog 78 = some 8 := by kernel_rfl
theorem tb_sliceElem_78 : sliceElem Tryd.prog 78 = none := by kernel_rfl
theorem tb_arrElem_78 : arrElem Tryd.prog 78 = none := by kernel_rfl
theorem tb_byteEl_78 : byteEl Tryd.prog 78 = false := by kernel_rfl
theorem tb_tk_79 : tk Tryd.prog 79 = TK.other := by kernel_rfl
theorem tb_loadK_79 : loadK Tryd.prog 79 = some (true, 2) := by kernel_rfl
theorem tb_zeroK_79 : zeroK Tryd.prog 79 = some [Value.int IntKind.i64 0, Value.slice none 0 0] := by kernel_rfl
theorem tb_bytesK_79 : bytesK Tryd.prog 79 = some 32 := by kernel_rfl
theorem tb_sliceElem_79 : sliceElem Tryd.prog 79 = none := by kernel_rfl
theorem tb_arrElem_79 : arrElem Tryd.prog 79 = none := by kernel_rfl
theorem tb_placesK_79 : placesK Tryd.prog 79 = some [(0, 1), (1, 1)] := by kernel_rfl
theorem tb_byteEl_79 : byteEl Tryd.prog 79 = false := by kernel_rfl
theorem tb_fieldK_79_0 : fieldK Tryd.prog 79 0 = some (0, false, 1) := by kernel_rfl
theorem tb_fieldK_79_1 : fieldK Tryd.prog 79 1 = some (1, false, 1) := by kernel_rfl
theorem tb_tk_80 : tk Tryd.prog 80 = TK.other := by kernel_rfl
theorem tb_loadK_80 : loadK Tryd.prog 80 = some (true, 2) := by kernel_rfl
theorem tb_zeroK_80 : zeroK Tryd.prog 80 = some [Value.int IntKind.i64 0, Value.slice none 0 0] := by kernel_rfl
theorem tb_bytesK_80 : bytesK Tryd.prog 80 = some 32 := by kernel_rfl
theorem tb_sliceElem_80 : sliceElem Tryd.prog 80 = none := by kernel_rfl
theorem tb_arrElem_80 : arrElem Tryd.prog 80 = none := by kernel_rfl
theorem tb_placesK_80 : placesK Tryd.prog 80 = some [(0, 1), (1, 1)] := by kernel_rfl
theorem tb_byteEl_80 : byteEl Tryd.prog 80 = false := by kernel_rfl
theorem tb_fieldK_80_0 : fieldK Tryd.prog 80 0 = some (0, false, 1) := by kernel_rfl
theorem tb_fieldK_80_1 : fieldK Tryd.prog 80 1 = some (1, false, 1) := by kernel_rfl
theorem tb_tk_81 : tk Tryd.prog 81 = TK.other := by kernel_rfl
theorem tb_loadK_81 : loadK Tryd.prog 81 = some (false, 1) := by kernel_rfl
theorem tb_zeroK_81 : zeroK Tryd.prog 81 = some [Value.nilFunc] := by kernel_rfl
theorem tb_bytesK_81 : bytesK Tryd.prog 81 = some 8 := by kernel_rfl
theorem tb_sliceElem_81 : sliceElem Tryd.prog 81 = none := by kernel_rfl
theorem tb_arrElem_81 : arrElem Tryd.prog 81 = none := by kernel_rfl
theorem tb_byteEl_81 : byteEl Tryd.prog 81 = false := by kernel_rfl
theorem tb_tk_83 : tk Tryd.prog 83 = TK.other := by kernel_rfl
theorem tb_loadK_83 : loadK Tryd.prog 83 = some (false, 1) := by kernel_rfl
theorem tb_zeroK_83 : zeroK Tryd.prog 83 = some [Value.nilFunc] := by kernel_rfl
theorem tb_bytesK_83 : bytesK Tryd.prog 83 = some 8 := by kernel_rfl
theorem tb_sliceElem_83 : sliceElem Tryd.prog 83 = none := by kernel_rfl
theorem tb_arrElem_83 : arrElem Tryd.prog 83 = none := by kernel_rfl
theorem tb_byteEl_83 : byteEl Tryd.prog 83 = false := by kernel_rfl
theorem tb_tk_84 : tk Tryd.prog 84 = TK.other := by kernel_rfl
theorem tb_loadK_84 : loadK Tryd.prog 84 = some (false, 1) := by kernel_rfl
theorem tb_zeroK_84 : zeroK Tryd.prog 84 = some [Value.nilFunc] := by kernel_rfl
theorem tb_bytesK_84 : bytesK Tryd.prog 84 = some 8 := by kernel_rfl
theorem tb_sliceElem_84 : sliceElem Tryd.prog 84 = none := by kernel_rfl
theorem tb_arrElem_84 : arrElem Tryd.prog 84 = none := by kernel_rfl
theorem tb_byteEl_84 : byteEl Tryd.prog 84 = false := by kernel_rfl
theorem tb_tk_86 : tk Tryd.prog 86 = TK.other := by kernel_rfl
theorem tb_loadK_86 : loadK Tryd.prog 86 = some (false, 1) := by kernel_rfl
theorem tb_zeroK_86 : zeroK Tryd.prog 86 = some [Value.tuple { toList := [Value.slice none 0 0, Value.int IntKind.i64 0] }] := by kernel_rfl
theorem tb_bytesK_86 : bytesK Tryd.prog 86 = some 0 := by kernel_rfl
theorem tb_sliceElem_86 : sliceElem Tryd.prog 86 = none := by kernel_rfl
theorem tb_arrElem_86 : arrElem Tryd.prog 86 = none := by kernel_rfl
theorem tb_byteEl_86 : byteEl Tryd.prog 86 = false := by kernel_rfl
theorem tb_tk_88 : tk Tryd.prog 88 = TK.other := by kernel_rfl
theorem tb_loadK_88 : loadK Tryd.prog 88 = some (false, 1) := by kernel_rfl
theorem tb_zeroK_88 : zeroK Tryd.prog 88 = some [Value.nilFunc] := by kernel_rfl
theorem tb_bytesK_88 : bytesK Tryd.prog 88 = some 8 := by kernel_rfl
theorem tb_sliceElem_88 : sliceElem Tryd.prog 88 = none := by kernel_rfl
theorem tb_arrElem_88 : arrElem Tryd.prog 88 = none := by kernel_rfl
theorem tb_byteEl_88 : byteEl Tryd.prog 88 = false := by kernel_rfl
theorem tb_tk_90 : tk Tryd.prog 90 = TK.other := by kernel_rfl
theorem tb_loadK_90 : loadK Tryd.prog 90 = some (false, 1) := by kernel_rfl
theorem tb_zeroK_90 : zeroK Tryd.prog 90 = some [Value.nilFunc] := by kernel_rfl
theorem tb_bytesK_90 : bytesK Tryd.prog 90 = some 8 := by kernel_rfl
theorem tb_sliceElem_90 : sliceElem Tryd.prog 90 = none := by kernel_rfl
theorem tb_arrElem_90 : arrElem Tryd.prog 90 = none := by kernel_rfl
theorem tb_byteEl_90 : byteEl Tryd.prog 90 = false := by kernel_rfl
theorem tb_tk_91 : tk Tryd.prog 91 = TK.mp := by kernel_rfl
theorem tb_loadK_91 : loadK Tryd.prog 91 = some (false, 1) := by kernel_rfl
theorem tb_zeroK_91 : zeroK Tryd.prog 91 = some [Value.map none] := by kernel_rfl
theorem tb_bytesK_91 : bytesK Tryd.prog 91 = some 8 := by kernel_rfl
theorem tb_byteEl_91 : byteEl Tryd.prog 91 = false := by kernel_rfl
theorem tb_mapK_91 : mapK Tryd.prog 91 = some (KD.int IntKind.i64, V.v (Value.bool false)) := by kernel_rfl
theorem tb_tk_92 : tk Tryd.prog 92 = TK.other := by kernel_rfl
theorem tb_loadK_92 : loadK Tryd.prog 92 = some (false, 1) := by kernel_rfl
theorem tb_zeroK_92 : zeroK Tryd.prog 92 = some [Value.nilFunc] := by kernel_rfl
theorem tb_bytesK_92 : bytesK Tryd.prog 92 = some 8 := by kernel_rfl
theorem tb_sliceElem_92 : sliceElem Tryd.prog 92 = none := by kernel_rfl
theorem tb_arrElem_92 : arrElem Tryd.prog 92 = none := by kernel_rfl
theorem tb_byteEl_92 : byteEl Tryd.prog 92 = false := by kernel_rfl
theorem tb_tk_94 : tk Tryd.prog 94 = TK.other := by kernel_rfl
theorem tb_loadK_94 : loadK Tryd.prog 94 = some (false, 1) := by kernel_rfl
theorem tb_zeroK_94 : zeroK Tryd.prog 94 = some [Value.nilFunc] := by kernel_rfl
theorem tb_bytesK_94 : bytesK Tryd.prog 94 = some 8 := by kernel_rfl
theorem tb_sliceElem_94 : sliceElem Tryd.prog 94 = none := by kernel_rfl
theorem tb_arrElem_94 : arrElem Tryd.prog 94 = none := by kernel_rfl
theorem tb_byteEl_94 : byteEl Tryd.prog 94 = false := by kernel_rfl
theorem tb_tk_95 : tk Tryd.prog 95 = TK.other := by kernel_rfl
theorem tb_loadK_95 : loadK Tryd.prog 95 = some (true, 3) := by kernel_rfl
theorem tb_zeroK_95 : zeroK Tryd.prog 95 = some [Value.int IntKind.i64 0, Value.int IntKind.i64 0, Value.int IntKind.i64 0] := by kernel_rfl
theorem tb_bytesK_95 : bytesK Tryd.prog 95 = some 24 := by kernel_rfl
theorem tb_sliceElem_95 : sliceElem Tryd.prog 95 = none := by kernel_rfl
theorem tb_arrElem_95 : arrElem Tryd.prog 95 = none := by kernel_rfl
theorem tb_placesK_95 : placesK Tryd.prog 95 = some [(0, 1), (1, 1), (2, 1)] := by kernel_rfl
theorem tb_byteEl_95 : byteEl Tryd.prog 95 = false := by kernel_rfl
theorem tb_flatK_95 : flatK Tryd.prog 95 = some [TypeDesc.int IntKind.i64, TypeDesc.int IntKind.i64, TypeDesc.int IntKind.i64] := by kernel_rfl
theorem tb_fieldK_95_0 : fieldK Tryd.prog 95 0 = some (0, false, 1) := by kernel_rfl
theorem tb_fieldK_95_1 : fieldK Tryd.prog 95 1 = some (1, false, 1) := by kernel_rfl
theorem tb_fieldK_95_2 : fieldK Tryd.prog 95 2 = some (2, false, 1) := by kernel_rfl
theorem tb_tk_96 : tk Tryd.prog 96 = TK.other := by kernel_rfl
theorem tb_loadK_96 : loadK Tryd.prog 96 = some (true, 3) := by kernel_rfl
theorem tb_zeroK_96 : zeroK Tryd.prog 96 = some [Value.int IntKind.i64 0, Value.int IntKind.i64 0, Value.int IntKind.i64 0] := by kernel_rfl
theorem tb_bytesK_96 : bytesK Tryd.prog 96 = some 24 := by kernel_rfl
theorem tb_sliceElem_96 : sliceElem Tryd.prog 96 = none := by kernel_rfl
theorem tb_arrElem_96 : arrElem Tryd.prog 96 = none := by kernel_rfl
theorem tb_placesK_96 : placesK Tryd.prog 96 = some [(0, 1), (1, 1), (2, 1)] := by kernel_rfl
theorem tb_byteEl_96 : byteEl Tryd.prog 96 = false := by kernel_rfl
theorem tb_flatK_96 : flatK Tryd.prog 96 = some [TypeDesc.int IntKind.i64, TypeDesc.int IntKind.i64, TypeDesc.int IntKind.i64] := by kernel_rfl
theorem tb_fieldK_96_0 : fieldK Tryd.prog 96 0 = some (0, false, 1) := by kernel_rfl
theorem tb_fieldK_96_1 : fieldK Tryd.prog 96 1 = some (1, false, 1) := by kernel_rfl
theorem tb_fieldK_96_2 : fieldK Tryd.prog 96 2 = some (2, false, 1) := by kernel_rfl
theorem tb_tk_97 : tk Tryd.prog 97 = TK.other := by kernel_rfl
theorem tb_loadK_97 : loadK Tryd.prog 97 = some (true, 6) := by kernel_rfl
theorem tb_zeroK_97 : zeroK Tryd.prog 97 = some [Value.int IntKind.i64 0, Value.int IntKind.i64 0, Value.int IntKind.i64 0, Value.string ByteArray.empty, Value.string ByteArray.empty, Value.string ByteArray.empty] := by kernel_rfl
theorem tb_bytesK_97 : bytesK Tryd.prog 97 = some 72 := by kernel_rfl
theorem tb_sliceElem_97 : sliceElem Tryd.prog 97 = none := by kernel_rfl
theorem tb_arrElem_97 : arrElem Tryd.prog 97 = none := by kernel_rfl
theorem tb_placesK_97 : placesK Tryd.prog 97 = some [(0, 3), (3, 1), (4, 1), (5, 1)] := by kernel_rfl
theorem tb_byteEl_97 : byteEl Tryd.prog 97 = false := by kernel_rfl
theorem tb_flatK_97 : flatK Tryd.prog 97 = some [TypeDesc.int IntKind.i64, TypeDesc.int IntKind.i64, TypeDesc.int IntKind.i64, TypeDesc.string, TypeDesc.string, TypeDesc.string] := by kernel_rfl
theorem tb_fieldK_97_0 : fieldK Tryd.prog 97 0 = some (0, true, 3) := by kernel_rfl
theorem tb_fieldK_97_1 : fieldK Tryd.prog 97 1 = some (3, false, 1) := by kernel_rfl
theorem tb_fieldK_97_2 : fieldK Tryd.prog 97 2 = some (4, false, 1) := by kernel_rfl
theorem tb_fieldK_97_3 : fieldK Tryd.prog 97 3 = some (5, false, 1) := by kernel_rfl
theorem tb_tk_98 : tk Tryd.prog 98 = TK.other := by kernel_rfl
theorem tb_loadK_98 : loadK Tryd.prog 98 = some (true, 6) := by kernel_rfl
theorem tb_zeroK_98 : zeroK Tryd.prog 98 = some [Value.int IntKind.i64 0, Value.int IntKind.i64 0, Value.int IntKind.i64 0, Value.string ByteArray.empty, Value.string ByteArray.empty, Value.string ByteArray.empty] := by kernel_rfl
theorem tb_bytesK_98 : bytesK Tryd.prog 98 = some 72 := by kernel_rfl
theorem tb_sliceElem_98 : sliceElem Tryd.prog 98 = none := by kernel_rfl
theorem tb_arrElem_98 : arrElem Tryd.prog 98 = none := by kernel_rfl
theorem tb_placesK_98 : placesK Tryd.prog 98 = some [(0, 3), (3, 1), (4, 1), (5, 1)] := by kernel_rfl
theorem tb_byteEl_98 : byteEl Tryd.prog 98 = false := by kernel_rfl
theorem tb_flatK_98 : flatK Tryd.prog 98 = some [TypeDesc.int IntKind.i64, TypeDesc.int IntKind.i64, TypeDesc.int IntKind.i64, TypeDesc.string, TypeDesc.string, TypeDesc.string] := by kernel_rfl
theorem tb_fieldK_98_0 : fieldK Tryd.prog 98 0 = some (0, true, 3) := by kernel_rfl
theorem tb_fieldK_98_1 : fieldK Tryd.prog 98 1 = some (3, false, 1) := by kernel_rfl
theorem tb_fieldK_98_2 : fieldK Tryd.prog 98 2 = some (4, false, 1) := by kernel_rfl
theorem tb_fieldK_98_3 : fieldK Tryd.prog 98 3 = some (5, false, 1) := by kernel_rfl
theorem tb_tk_99 : tk Tryd.prog 99 = TK.other := by kernel_rfl
theorem tb_loadK_99 : loadK Tryd.prog 99 = some (false, 1) := by kernel_rfl
theorem tb_zeroK_99 : zeroK Tryd.prog 99 = some [Value.tuple { toList := [Value.agg { toList := [Value.int IntKind.i64 0, Value.int IntKind.i64 0, Value.int IntKind.i64 0, Value.string ByteArray.empty, Value.string ByteArray.empty, Value.string ByteArray.empty] }, Value.int IntKind.i64 0] }] := by kernel_rfl
theorem tb_bytesK_99 : bytesK Tryd.prog 99 = some 0 := by kernel_rfl
theorem tb_sliceElem_99 : sliceElem Tryd.prog 99 = none := by kernel_rfl
theorem tb_arrElem_99 : arrElem Tryd.prog 99 = none := by kernel_rfl
theorem tb_byteEl_99 : byteEl Tryd.prog 99 = false := by kernel_rfl
theorem tb_tk_101 : tk Tryd.prog 101 = TK.other := by kernel_rfl
theorem tb_loadK_101 : loadK Tryd.prog 101 = some (false, 1) := by kernel_rfl
theorem tb_zeroK_101 : zeroK Tryd.prog 101 = some [Value.nilFunc] := by kernel_rfl
theorem tb_bytesK_101 : bytesK Tryd.prog 101 = some 8 := by kernel_rfl
theorem tb_sliceElem_101 : sliceElem Tryd.prog 101 = none := by kernel_rfl
theorem tb_arrElem_101 : arrElem Tryd.prog 101 = none := by kernel_rfl
theorem tb_byteEl_101 : byteEl Tryd.prog 101 = false := by kernel_rfl
theorem tb_tk_103 : tk Tryd.prog 103 = TK.other := by kernel_rfl
theorem tb_loadK_103 : loadK Tryd.prog 103 = some (false, 1) := by kernel_rfl
theorem tb_zeroK_103 : zeroK Tryd.prog 103 = some [Value.nilFunc] := by kernel_rfl
theorem tb_bytesK_103 : bytesK Tryd.prog 103 = some 8 := by kernel_rfl
theorem tb_sliceElem_103 : sliceElem Tryd.prog 103 = none := by kernel_rfl
theorem tb_arrElem_103 : arrElem Tryd.prog 103 = none := by kernel_rfl
theorem tb_byteEl_103 : byteEl Tryd.prog 103 = false := by kernel_rfl
theorem tb_tk_104 : tk Tryd.prog 104 = TK.other := by kernel_rfl
theorem tb_loadK_104 : loadK Tryd.prog 104 = some (false, 1) := by kernel_rfl
theorem tb_zeroK_104 : zeroK Tryd.prog 104 = some [Value.nilFunc] := by kernel_rfl
theorem tb_bytesK_104 : bytesK Tryd.prog 104 = some 8 := by kernel_rfl
theorem tb_sliceElem_104 : sliceElem Tryd.prog 104 = none := by kernel_rfl
theorem tb_arrElem_104 : arrElem Tryd.prog 104 = none := by kernel_rfl
theorem tb_byteEl_104 : byteEl Tryd.prog 104 = false := by kernel_rfl
theorem tb_tk_105 : tk Tryd.prog 105 = TK.other := by kernel_rfl
theorem tb_loadK_105 : loadK Tryd.prog 105 = some (false, 1) := by kernel_rfl
theorem tb_zeroK_105 : zeroK Tryd.prog 105 = some [Value.nilFunc] := by kernel_rfl
theorem tb_bytesK_105 : bytesK Tryd.prog 105 = some 8 := by kernel_rfl
theorem tb_sliceElem_105 : sliceElem Tryd.prog 105 = none := by kernel_rfl
theorem tb_arrElem_105 : arrElem Tryd.prog 105 = none := by kernel_rfl
theorem tb_byteEl_105 : byteEl Tryd.prog 105 = false := by kernel_rfl
theorem tb_tk_106 : tk Tryd.prog 106 = TK.other := by kernel_rfl
theorem tb_loadK_106 : loadK Tryd.prog 106 = some (false, 1) := by kernel_rfl
theorem tb_zeroK_106 : zeroK Tryd.prog 106 = some [Value.nilFunc] := by kernel_rfl
theorem tb_bytesK_106 : bytesK Tryd.prog 106 = some 8 := by kernel_rfl
theorem tb_sliceElem_106 : sliceElem Tryd.prog 106 = none := by kernel_rfl
theorem tb_arrElem_106 : arrElem Tryd.prog 106 = none := by kernel_rfl
theorem tb_byteEl_106 : byteEl Tryd.prog 106 = false := by kernel_rfl
theorem tb_tk_108 : tk Tryd.prog 108 = TK.other := by kernel_rfl
theorem tb_loadK_108 : loadK Tryd.prog 108 = some (false, 1) := by kernel_rfl
theorem tb_zeroK_108 : zeroK Tryd.prog 108 = some [Value.nilFunc] := by kernel_rfl
theorem tb_bytesK_108 : bytesK Tryd.prog 108 = some 8 := by kernel_rfl
theorem tb_sliceElem_108 : sliceElem Tryd.prog 108 = none := by kernel_rfl
theorem tb_arrElem_108 : arrElem Tryd.prog 108 = none := by kernel_rfl
theorem tb_byteEl_108 : byteEl Tryd.prog 108 = false := by kernel_rfl
theorem tb_tk_111 : tk Tryd.prog 111 = TK.other := by kernel_rfl
theorem tb_loadK_111 : loadK Tryd.prog 111 = some (false, 1) := by kernel_rfl
theorem tb_zeroK_111 : zeroK Tryd.prog 111 = some [Value.nilFunc] := by kernel_rfl
theorem tb_bytesK_111 : bytesK Tryd.prog 111 = some 8 := by kernel_rfl
theorem tb_sliceElem_111 : sliceElem Tryd.prog 111 = none := by kernel_rfl
theorem tb_arrElem_111 : arrElem Tryd.prog 111 = none := by kernel_rfl
theorem tb_byteEl_111 : byteEl Tryd.prog 111 = false := by kernel_rfl
theorem tb_tk_112 : tk Tryd.prog 112 = TK.mp := by kernel_rfl
theorem tb_loadK_112 : loadK Tryd.prog 112 = some (false, 1) := by kernel_rfl
theorem tb_zeroK_112 : zeroK Tryd.prog 112 = some [Value.map none] := by kernel_rfl
theorem tb_bytesK_112 : bytesK Tryd.prog 112 = some 8 := by kernel_rfl
theorem tb_byteEl_112 : byteEl Tryd.prog 112 = false := by kernel_rfl
theorem tb_mapK_112 : mapK Tryd.prog 112 = some (KD.agg [TypeDesc.int IntKind.i64, TypeDesc.int IntKind.i64, TypeDesc.bool], V.v (Value.int IntKind.i64 0)) := by kernel_rfl
theorem tb_tk_113 : tk Tryd.prog 113 = TK.other := by kernel_rfl
theorem tb_loadK_113 : loadK Tryd.prog 113 = some (false, 1) := by kernel_rfl
theorem tb_zeroK_113 : zeroK Tryd.prog 113 = some [Value.nilFunc] := by kernel_rfl
theorem tb_bytesK_113 : bytesK Tryd.prog 113 = some 8 := by kernel_rfl
theorem tb_sliceElem_113 : sliceElem Tryd.prog 113 = none := by kernel_rfl
theorem tb_arrElem_113 : arrElem Tryd.prog 113 = none := by kernel_rfl
theorem tb_byteEl_113 : byteEl Tryd.prog 113 = false := by kernel_rfl
theorem tb_tk_115 : tk Tryd.prog 115 = TK.other := by kernel_rfl
theorem tb_loadK_115 : loadK Tryd.prog 115 = some (true, 3) := by kernel_rfl
theorem tb_zeroK_115 : zeroK Tryd.prog 115 = some [Value.int IntKind.i64 0, Value.int IntKind.i64 0, Value.bool false] := by kernel_rfl
theorem tb_bytesK_115 : bytesK Tryd.prog 115 = some 24 := by kernel_rfl
theorem tb_sliceElem_115 : sliceElem Tryd.prog 115 = none := by kernel_rfl
theorem tb_arrElem_115 : arrElem Tryd.prog 115 = none := by kernel_rfl
theorem tb_placesK_115 : placesK Tryd.prog 115 = some [(0, 1), (1, 1), (2, 1)] := by kernel_rfl
theorem tb_byteEl_115 : byteEl Tryd.prog 115 = false := by kernel_rfl
theorem tb_flatK_115 : flatK Tryd.prog 115 = some [TypeDesc.int IntKind.i64, TypeDesc.int IntKind.i64, TypeDesc.bool] := by kernel_rfl
theorem tb_fieldK_115_0 : fieldK Tryd.prog 115 0 = some (0, false, 1) := by kernel_rfl
theorem tb_fieldK_115_1 : fieldK Tryd.prog 115 1 = some (1, false, 1) := by kernel_rfl
theorem tb_fieldK_115_2 : fieldK Tryd.prog 115 2 = some (2, false, 1) := by kernel_rfl
theorem tb_tk_116 : tk Tryd.prog 116 = TK.other := by kernel_rfl
theorem tb_loadK_116 : loadK Tryd.prog 116 = some (false, 1) := by kernel_rfl
theorem tb_zeroK_116 : zeroK Tryd.prog 116 = some [Value.tuple { toList := [Value.int IntKind.i64 0, Value.bool false] }] := by kernel_rfl
theorem tb_bytesK_116 : bytesK Tryd.prog 116 = some 0 := by kernel_rfl
theorem tb_sliceElem_116 : sliceElem Tryd.prog 116 = none := by kernel_rfl
theorem tb_arrElem_116 : arrElem Tryd.prog 116 = none := by kernel_rfl
theorem tb_byteEl_116 : byteEl Tryd.prog 116 = false := by kernel_rfl
theorem tb_tk_117 : tk Tryd.prog 117 = TK.other := by kernel_rfl
theorem tb_loadK_117 : loadK Tryd.prog 117 = some (false, 1) := by kernel_rfl
theorem tb_zeroK_117 : zeroK Tryd.prog 117 = some [Value.nilFunc] := by kernel_rfl
theorem tb_bytesK_117 : bytesK Tryd.prog 117 = some 8 := by kernel_rfl
theorem tb_sliceElem_117 : sliceElem Tryd.prog 117 = none := by kernel_rfl
theorem tb_arrElem_117 : arrElem Tryd.prog 117 = none := by kernel_rfl
theorem tb_byteEl_117 : byteEl Tryd.prog 117 = false := by kernel_rfl
theorem tb_tk_119 : tk Tryd.prog 119 = TK.other := by kernel_rfl
theorem tb_loadK_119 : loadK Tryd.prog 119 = some (true, 2) := by kernel_rfl
theorem tb_zeroK_119 : zeroK Tryd.prog 119 = some [Value.int IntKind.u8 0, Value.nilFunc] := by kernel_rfl
theorem tb_bytesK_119 : bytesK Tryd.prog 119 = some 16 := by kernel_rfl
theorem tb_sliceElem_119 : sliceElem Tryd.prog 119 = none := by kernel_rfl
theorem tb_arrElem_119 : arrElem Tryd.prog 119 = none := by kernel_rfl
theorem tb_placesK_119 : placesK Tryd.prog 119 = some [(0, 1), (1, 1)] := by kernel_rfl
theorem tb_byteEl_119 : byteEl Tryd.prog 119 = false := by kernel_rfl
theorem tb_fieldK_119_0 : fieldK Tryd.prog 119 0 = some (0, false, 1) := by kernel_rfl
theorem tb_fieldK_119_1 : fieldK Tryd.prog 119 1 = some (1, false, 1) := by kernel_rfl
theorem tb_tk_120 : tk Tryd.prog 120 = TK.other := by kernel_rfl
theorem tb_loadK_120 : loadK Tryd.prog 120 = some (true, 6) := by kernel_rfl
theorem tb_zeroK_120 : zeroK Tryd.prog 120 = some [Value.int IntKind.u8 0, Value.nilFunc, Value.int IntKind.u8 0, Value.nilFunc, Value.int IntKind.u8 0, Value.nilFunc] := by kernel_rfl
theorem tb_bytesK_120 : bytesK Tryd.prog 120 = some 48 := by kernel_rfl
theorem tb_sliceElem_120 : sliceElem Tryd.prog 120 = none := by kernel_rfl
theorem tb_arrElem_120 : arrElem Tryd.prog 120 = some (3, 2) := by kernel_rfl
theorem tb_placesK_120 : placesK Tryd.prog 120 = some [(0, 2), (2, 2), (4, 2), (6, 2), (8, 2), (10, 2), (12, 2), (14, 2)] := by kernel_rfl
theorem tb_byteEl_120 : byteEl Tryd.prog 120 = false := by kernel_rfl
theorem tb_arrLoad_120 : arrLoad Tryd.prog 120 = some (3, true, 2) := by kernel_rfl
theorem tb_tk_121 : tk Tryd.prog 121 = TK.other := by kernel_rfl
theorem tb_loadK_121 : loadK Tryd.prog 121 = some (false, 1) := by kernel_rfl
theorem tb_zeroK_121 : zeroK Tryd.prog 121 = some [Value.tuple { toList := [Value.int IntKind.i64 0, Value.agg { toList := [Value.int IntKind.i64 0, Value.int IntKind.i64 0, Value.bool false] }, Value.bool false] }] := by kernel_rfl
theorem tb_bytesK_121 : bytesK Tryd.prog 121 = some 0 := by kernel_rfl
theorem tb_sliceElem_121 : sliceElem Tryd.prog 121 = none := by kernel_rfl
theorem tb_arrElem_121 : arrElem Tryd.prog 121 = none := by kernel_rfl
theorem tb_byteEl_121 : byteEl Tryd.prog 121 = false := by kernel_rfl
theorem tb_tk_127 : tk Tryd.prog 127 = TK.other := by kernel_rfl
theorem tb_loadK_127 : loadK Tryd.prog 127 = some (false, 1) := by kernel_rfl
theorem tb_zeroK_127 : zeroK Tryd.prog 127 = some [Value.tuple { toList := [Value.agg { toList := [Value.int IntKind.i64 0, Value.int IntKind.i64 0, Value.int IntKind.i64 0, Value.string ByteArray.empty, Value.string ByteArray.empty, Value.string ByteArray.empty] }, Value.bool false] }] := by kernel_rfl
theorem tb_bytesK_127 : bytesK Tryd.prog 127 = some 0 := by kernel_rfl
theorem tb_sliceElem_127 : sliceElem Tryd.prog 127 = none := by kernel_rfl
theorem tb_arrElem_127 : arrElem Tryd.prog 127 = none := by kernel_rfl
theorem tb_byteEl_127 : byteEl Tryd.prog 127 = false := by kernel_rfl
theorem tb_tk_129 : tk Tryd.prog 129 = TK.other := by kernel_rfl
theorem tb_loadK_129 : loadK Tryd.prog 129 = some (false, 1) := by kernel_rfl
theorem tb_zeroK_129 : zeroK Tryd.prog 129 = some [Value.nilFunc] := by kernel_rfl
theorem tb_bytesK_129 : bytesK Tryd.prog 129 = some 8 := by kernel_rfl
theorem tb_sliceElem_129 : sliceElem Tryd.prog 129 = none := by kernel_rfl
theorem tb_arrElem_129 : arrElem Tryd.prog 129 = none := by kernel_rfl
theorem tb_byteEl_129 : byteEl Tryd.prog 129 = false := by kernel_rfl
theorem tb_tk_133 : tk Tryd.prog 133 = TK.other := by kernel_rfl
theorem tb_loadK_133 : loadK Tryd.prog 133 = some (false, 1) := by kernel_rfl
theorem tb_zeroK_133 : zeroK Tryd.prog 133 = some [Value.nilFunc] := by kernel_rfl
theorem tb_bytesK_133 : bytesK Tryd.prog 133 = some 8 := by kernel_rfl
theorem tb_sliceElem_133 : sliceElem Tryd.prog 133 = none := by kernel_rfl
theorem tb_arrElem_133 : arrElem Tryd.prog 133 = none := by kernel_rfl
theorem tb_byteEl_133 : byteEl Tryd.prog 133 = false := by kernel_rfl
theorem tb_tk_134 : tk Tryd.prog 134 = TK.other := by kernel_rfl
theorem tb_loadK_134 : loadK Tryd.prog 134 = some (true, 8) := by kernel_rfl
theorem tb_zeroK_134 : zeroK Tryd.prog 134 = some [Value.int IntKind.i64 0, Value.int IntKind.i64 0, Value.int IntKind.i64 0, Value.int IntKind.i64 0, Value.int IntKind.i64 0, Value.int IntKind.i64 0, Value.int IntKind.i64 0, Value.int IntKind.i64 0] := by kernel_rfl
theorem tb_bytesK_134 : bytesK Tryd.prog 134 = some 64 := by kernel_rfl
theorem tb_sliceElem_134 : sliceElem Tryd.prog 134 = none := by kernel_rfl
theorem tb_arrElem_134 : arrElem Tryd.prog 134 = some (2, 4) := by kernel_rfl
theorem tb_placesK_134 : placesK Tryd.prog 134 = some [(0, 4), (4, 4), (8, 4), (12, 4), (16, 4), (20, 4), (24, 4), (28, 4)] := by kernel_rfl
theorem tb_byteEl_134 : byteEl Tryd.prog 134 = false := by kernel_rfl
theorem tb_flatK_134 : flatK Tryd.prog 134 = some [TypeDesc.int IntKind.i64, TypeDesc.int IntKind.i64, TypeDesc.int IntKind.i64, TypeDesc.int IntKind.i64, TypeDesc.int IntKind.i64, TypeDesc.int IntKind.i64, TypeDesc.int IntKind.i64, TypeDesc.int IntKind.i64] := by kernel_rfl
theorem tb_arrLoad_134 : arrLoad Tryd.prog 134 = some (2, true, 4) := by kernel_rfl
theorem tb_tk_137 : tk Tryd.prog 137 = TK.other := by kernel_rfl
theorem tb_loadK_137 : loadK Tryd.prog 137 = some (false, 1) := by kernel_rfl
theorem tb_zeroK_137 : zeroK Tryd.prog 137 = some [Value.nilFunc] := by kernel_rfl
theorem tb_bytesK_137 : bytesK Tryd.prog 137 = some 8 := by kernel_rfl
theorem tb_sliceElem_137 : sliceElem Tryd.prog 137 = none := by kernel_rfl
theorem tb_arrElem_137 : arrElem Tryd.prog 137 = none := by kernel_rfl
theorem tb_byteEl_137 : byteEl Tryd.prog 137 = false := by kernel_rfl
theorem tb_tk_141 : tk Tryd.prog 141 = TK.other := by kernel_rfl
theorem tb_loadK_141 : loadK Tryd.prog 141 = some (true, 4) := by kernel_rfl
theorem tb_zeroK_141 : zeroK Tryd.prog 141 = some [Value.int IntKind.i64 0, Value.int IntKind.u8 0, Value.slice none 0 0, Value.slice none 0 0] := by kernel_rfl
theorem tb_bytesK_141 : bytesK Tryd.prog 141 = some 64 := by kernel_rfl
theorem tb_sliceElem_141 : sliceElem Tryd.prog 141 = none := by kernel_rfl
theorem tb_arrElem_141 : arrElem Tryd.prog 141 = none := by kernel_rfl
theorem tb_placesK_141 : placesK Tryd.prog 141 = some [(0, 2), (2, 1), (3, 1)] := by kernel_rfl
theorem tb_byteEl_141 : byteEl Tryd.prog 141 = false := by kernel_rfl
theorem tb_fieldK_141_0 : fieldK Tryd.prog 141 0 = some (0, true, 2) := by kernel_rfl
theorem tb_fieldK_141_1 : fieldK Tryd.prog 141 1 = some (2, false, 1) := by kernel_rfl
theorem tb_fieldK_141_2 : fieldK Tryd.prog 141 2 = some (3, false, 1) := by kernel_rfl
theorem tb_tk_147 : tk Tryd.prog 147 = TK.slc := by kernel_rfl
theorem tb_loadK_147 : loadK Tryd.prog 147 = some (false, 1) := by kernel_rfl
theorem tb_zeroK_147 : zeroK Tryd.prog 147 = some [Value.slice none 0 0] := by kernel_rfl
theorem tb_bytesK_147 : bytesK Tryd.prog 147 = some 24 := by kernel_rfl
theorem tb_sliceElem_147 : sliceElem Tryd.prog 147 = some (5, 1) := by kernel_rfl
theorem tb_arrElem_147 : arrElem Tryd.prog 147 = none := by kernel_rfl
theorem tb_byteEl_147 : byteEl Tryd.prog 147 = true := by kernel_rfl
theorem tb_tk_148 : tk Tryd.prog 148 = TK.other := by kernel_rfl
theorem tb_loadK_148 : loadK Tryd.prog 148 = some (false, 1) := by kernel_rfl
theorem tb_zeroK_148 : zeroK Tryd.prog 148 = some [Value.nilFunc] := by kernel_rfl
theorem tb_bytesK_148 : bytesK Tryd.prog 148 = some 8 := by kernel_rfl
theorem tb_sliceElem_148 : sliceElem Tryd.prog 148 = none := by kernel_rfl
theorem tb_arrElem_148 : arrElem Tryd.prog 148 = none := by kernel_rfl
theorem tb_byteEl_148 : byteEl Tryd.prog 148 = false := by kernel_rfl
theorem tb_tk_151 : tk Tryd.prog 151 = TK.other := by kernel_rfl
theorem tb_loadK_151 : loadK Tryd.prog 151 = some (true, 4) := by kernel_rfl
theorem tb_zeroK_151 : zeroK Tryd.prog 151 = some [Value.int IntKind.i64 0, Value.int IntKind.i64 0, Value.int IntKind.i64 0, Value.int IntKind.i64 0] := by kernel_rfl
theorem tb_bytesK_151 : bytesK Tryd.prog 151 = some 32 := by kernel_rfl
theorem tb_sliceElem_151 : sliceElem Tryd.prog 151 = none := by kernel_rfl
theorem tb_arrElem_151 : arrElem Tryd.prog 151 = none := by kernel_rfl
theorem tb_placesK_151 : placesK Tryd.prog 151 = some [(0, 1), (1, 1), (2, 1), (3, 1)] := by kernel_rfl
theorem tb_byteEl_151 : byteEl Tryd.prog 151 = false := by kernel_rfl
theorem tb_flatK_151 : flatK Tryd.prog 151 = some [TypeDesc.int IntKind.i64, TypeDesc.int IntKind.i64, TypeDesc.int IntKind.i64, TypeDesc.int IntKind.i64] := by kernel_rfl
theorem tb_fieldK_151_0 : fieldK Tryd.prog 151 0 = some (0, false, 1) := by kernel_rfl
theorem tb_fieldK_151_1 : fieldK Tryd.prog 151 1 = some (1, false, 1) := by kernel_rfl
theorem tb_fieldK_151_2 : fieldK Tryd.prog 151 2 = some (2, false, 1) := by kernel_rfl
theorem tb_fieldK_151_3 : fieldK Tryd.prog 151 3 = some (3, false, 1) := by kernel_rfl
theorem tb_tk_153 : tk Tryd.prog 153 = TK.other := by kernel_rfl
theorem tb_loadK_153 : loadK Tryd.prog 153 = some (false, 1) := by kernel_rfl
theorem tb_zeroK_153 : zeroK Tryd.prog 153 = some [Value.nilFunc] := by kernel_rfl
theorem tb_bytesK_153 : bytesK Tryd.prog 153 = some 8 := by kernel_rfl
theorem tb_sliceElem_153 : sliceElem Tryd.prog 153 = none := by kernel_rfl
theorem tb_arrElem_153 : arrElem Tryd.prog 153 = none := by kernel_rfl
theorem tb_byteEl_153 : byteEl Tryd.prog 153 = false := by kernel_rfl
theorem tb_tk_154 : tk Tryd.prog 154 = TK.other := by kernel_rfl
theorem tb_loadK_154 : loadK Tryd.prog 154 = some (false, 1) := by kernel_rfl
theorem tb_zeroK_154 : zeroK Tryd.prog 154 = some [Value.nilFunc] := by kernel_rfl
theorem tb_bytesK_154 : bytesK Tryd.prog 154 = some 8 := by kernel_rfl
theorem tb_sliceElem_154 : sliceElem Tryd.prog 154 = none := by kernel_rfl
theorem tb_arrElem_154 : arrElem Tryd.prog 154 = none := by kernel_rfl
theorem tb_byteEl_154 : byteEl Tryd.prog 154 = false := by kernel_rfl
theorem tb_tk_157 : tk Tryd.prog 157 = TK.other := by kernel_rfl
theorem tb_loadK_157 : loadK Tryd.prog 157 = some (false, 1) := by kernel_rfl
theorem tb_zeroK_157 : zeroK Tryd.prog 157 = some [Value.nilFunc] := by kernel_rfl
theorem tb_bytesK_157 : bytesK Tryd.prog 157 = some 8 := by kernel_rfl
theorem tb_sliceElem_157 : sliceElem Tryd.prog 157 = none := by kernel_rfl
theorem tb_arrElem_157 : arrElem Tryd.prog 157 = none := by kernel_rfl
theorem tb_byteEl_157 : byteEl Tryd.prog 157 = false := by kernel_rfl
theorem tb_tk_158 : tk Tryd.prog 158 = TK.other := by kernel_rfl
theorem tb_loadK_158 : loadK Tryd.prog 158 = some (true, 1) := by kernel_rfl
theorem tb_zeroK_158 : zeroK Tryd.prog 158 = some [Value.nilFunc] := by kernel_rfl
theorem tb_bytesK_158 : bytesK Tryd.prog 158 = some 8 := by kernel_rfl
theorem tb_sliceElem_158 : sliceElem Tryd.prog 158 = none := by kernel_rfl
theorem tb_arrElem_158 : arrElem Tryd.prog 158 = none := by kernel_rfl
theorem tb_placesK_158 : placesK Tryd.prog 158 = some [(0, 1)] := by kernel_rfl
theorem tb_byteEl_158 : byteEl Tryd.prog 158 = false := by kernel_rfl
theorem tb_fieldK_158_0 : fieldK Tryd.prog 158 0 = some (0, false, 1) := by kernel_rfl
theorem tb_tk_159 : tk Tryd.prog 159 = TK.other := by kernel_rfl
theorem tb_loadK_159 : loadK Tryd.prog 159 = some (true, 4) := by kernel_rfl
theorem tb_zeroK_159 : zeroK Tryd.prog 159 = some [Value.nilFunc, Value.nilFunc, Value.nilFunc, Value.nilFunc] := by kernel_rfl
theorem tb_bytesK_159 : bytesK Tryd.prog 159 = some 32 := by kernel_rfl
theorem tb_sliceElem_159 : sliceElem Tryd.prog 159 = none := by kernel_rfl
theorem tb_arrElem_159 : arrElem Tryd.prog 159 = some (4, 1) := by kernel_rfl
theorem tb_placesK_159 : placesK Tryd.prog 159 = some [(0, 1), (1, 1), (2, 1), (3, 1), (4, 1), (5, 1), (6, 1), (7, 1)] := by kernel_rfl
theorem tb_byteEl_159 : byteEl Tryd.prog 159 = false := by kernel_rfl
theorem tb_arrLoad_159 : arrLoad Tryd.prog 159 = some (4, true, 1) := by kernel_rfl
theorem tb_tk_162 : tk Tryd.prog 162 = TK.other := by kernel_rfl
theorem tb_loadK_162 : loadK Tryd.prog 162 = some (false, 1) := by kernel_rfl
theorem tb_zeroK_162 : zeroK Tryd.prog 162 = some [Value.nilFunc] := by kernel_rfl
theorem tb_bytesK_162 : bytesK Tryd.prog 162 = some 8 := by kernel_rfl
theorem tb_sliceElem_162 : sliceElem Tryd.prog 162 = none := by kernel_rfl
theorem tb_arrElem_162 : arrElem Tryd.prog 162 = none := by kernel_rfl
theorem tb_byteEl_162 : byteEl Tryd.prog 162 = false := by kernel_rfl
theorem tb_tk_163 : tk Tryd.prog 163 = TK.ptr := by kernel_rfl
theorem tb_loadK_163 : loadK Tryd.prog 163 = some (false, 1) := by kernel_rfl
theorem tb_zeroK_163 : zeroK Tryd.prog 163 = some [Value.pointer none] := by kernel_rfl
theorem tb_bytesK_163 : bytesK Tryd.prog 163 = some 8 := by kernel_rfl
theorem tb_sliceElem_163 : sliceElem Tryd.prog 163 = none := by kernel_rfl
theorem tb_arrElem_163 : arrElem Tryd.prog 163 = none := by kernel_rfl
theorem tb_byteEl_163 : byteEl Tryd.prog 163 = false := by kernel_rfl
theorem tb_tk_165 : tk Tryd.prog 165 = TK.other := by kernel_rfl
theorem tb_loadK_165 : loadK Tryd.prog 165 = some (true, 2) := by kernel_rfl
theorem tb_zeroK_165 : zeroK Tryd.prog 165 = some [Value.pointer none, Value.slice none 0 0] := by kernel_rfl
theorem tb_bytesK_165 : bytesK Tryd.prog 165 = some 32 := by kernel_rfl
theorem tb_sliceElem_165 : sliceElem Tryd.prog 165 = none := by kernel_rfl
theorem tb_arrElem_165 : arrElem Tryd.prog 165 = none := by kernel_rfl
theorem tb_placesK_165 : placesK Tryd.prog 165 = some [(0, 1), (1, 1)] := by kernel_rfl
theorem tb_byteEl_165 : byteEl Tryd.prog 165 = false := by kernel_rfl
theorem tb_fieldK_165_0 : fieldK Tryd.prog 165 0 = some (0, false, 1) := by kernel_rfl
theorem tb_fieldK_165_1 : fieldK Tryd.prog 165 1 = some (1, false, 1) := by kernel_rfl
theorem tb_tk_168 : tk Tryd.prog 168 = TK.other := by kernel_rfl
theorem tb_loadK_168 : loadK Tryd.prog 168 = some (false, 1) := by kernel_rfl
theorem tb_zeroK_168 : zeroK Tryd.prog 168 = some [Value.nilIface] := by kernel_rfl
theorem tb_bytesK_168 : bytesK Tryd.prog 168 = some 16 := by kernel_rfl
theorem tb_sliceElem_168 : sliceElem Tryd.prog 168 = none := by kernel_rfl
theorem tb_arrElem_168 : arrElem Tryd.prog 168 = none := by kernel_rfl
theorem tb_byteEl_168 : byteEl Tryd.prog 168 = false := by kernel_rfl
theorem tb_tk_169 : tk Tryd.prog 169 = TK.other := by kernel_rfl
theorem tb_loadK_169 : loadK Tryd.prog 169 = some (false, 1) := by kernel_rfl
theorem tb_zeroK_169 : zeroK Tryd.prog 169 = some [Value.tuple { toList := [Value.int IntKind.i64 0, Value.nilIface] }] := by kernel_rfl
theorem tb_bytesK_169 : bytesK Tryd.prog 169 = some 0 := by kernel_rfl
theorem tb_sliceElem_169 : sliceElem Tryd.prog 169 = none := by kernel_rfl
theorem tb_arrElem_169 : arrElem Tryd.prog 169 = none := by kernel_rfl
theorem tb_byteEl_169 : byteEl Tryd.prog 169 = false := by kernel_rfl
theorem tb_tk_172 : tk Tryd.prog 172 = TK.ptr := by kernel_rfl
theorem tb_loadK_172 : loadK Tryd.prog 172 = some (false, 1) := by kernel_rfl
theorem tb_zeroK_172 : zeroK Tryd.prog 172 = some [Value.pointer none] := by kernel_rfl
theorem tb_bytesK_172 : bytesK Tryd.prog 172 = some 8 := by kernel_rfl
theorem tb_sliceElem_172 : sliceElem Tryd.prog 172 = none := by kernel_rfl
theorem tb_arrElem_172 : arrElem Tryd.prog 172 = none := by kernel_rfl
theorem tb_byteEl_172 : byteEl Tryd.prog 172 = false := by kernel_rfl
theorem tb_tk_173 : tk Tryd.prog 173 = TK.other := by kernel_rfl
theorem tb_loadK_173 : loadK Tryd.prog 173 = some (false, 1) := by kernel_rfl
theorem tb_zeroK_173 : zeroK Tryd.prog 173 = some [Value.pointer none] := by kernel_rfl
theorem tb_bytesK_173 : bytesK Tryd.prog 173 = some 8 := by kernel_rfl
theorem tb_sliceElem_173 : sliceElem Tryd.prog 173 = none := by kernel_rfl
theorem tb_arrElem_173 : arrElem Tryd.prog 173 = none := by kernel_rfl
theorem tb_byteEl_173 : byteEl Tryd.prog 173 = false := by kernel_rfl
theorem tb_tk_192 : tk Tryd.prog 192 = TK.slc := by kernel_rfl
theorem tb_loadK_192 : loadK Tryd.prog 192 = some (false, 1) := by kernel_rfl
theorem tb_zeroK_192 : zeroK Tryd.prog 192 = some [Value.slice none 0 0] := by kernel_rfl
theorem tb_bytesK_192 : bytesK Tryd.prog 192 = some 24 := by kernel_rfl
theorem tb_sliceElem_192 : sliceElem Tryd.prog 192 = some (204, 5) := by kernel_rfl
theorem tb_arrElem_192 : arrElem Tryd.prog 192 = none := by kernel_rfl
theorem tb_byteEl_192 : byteEl Tryd.prog 192 = false := by kernel_rfl
theorem tb_tk_195 : tk Tryd.prog 195 = TK.other := by kernel_rfl
theorem tb_loadK_195 : loadK Tryd.prog 195 = some (false, 1) := by kernel_rfl
theorem tb_zeroK_195 : zeroK Tryd.prog 195 = some [Value.nilFunc] := by kernel_rfl
theorem tb_bytesK_195 : bytesK Tryd.prog 195 = some 8 := by kernel_rfl
theorem tb_sliceElem_195 : sliceElem Tryd.prog 195 = none := by kernel_rfl
theorem tb_arrElem_195 : arrElem Tryd.prog 195 = none := by kernel_rfl
theorem tb_byteEl_195 : byteEl Tryd.prog 195 = false := by kernel_rfl
theorem tb_tk_198 : tk Tryd.prog 198 = TK.other := by kernel_rfl
theorem tb_loadK_198 : loadK Tryd.prog 198 = some (true, 3) := by kernel_rfl
theorem tb_zeroK_198 : zeroK Tryd.prog 198 = some [Value.int IntKind.u8 0, Value.int IntKind.i64 0, Value.int IntKind.i64 0] := by kernel_rfl
theorem tb_bytesK_198 : bytesK Tryd.prog 198 = some 24 := by kernel_rfl
theorem tb_sliceElem_198 : sliceElem Tryd.prog 198 = none := by kernel_rfl
theorem tb_arrElem_198 : arrElem Tryd.prog 198 = none := by kernel_rfl
theorem tb_placesK_198 : placesK Tryd.prog 198 = some [(0, 1), (1, 1), (2, 1)] := by kernel_rfl
theorem tb_byteEl_198 : byteEl Tryd.prog 198 = false := by kernel_rfl
theorem tb_flatK_198 : flatK Tryd.prog 198 = some [TypeDesc.int IntKind.u8, TypeDesc.int IntKind.i64, TypeDesc.int IntKind.i64] := by kernel_rfl
theorem tb_fieldK_198_0 : fieldK Tryd.prog 198 0 = some (0, false, 1) := by kernel_rfl
theorem tb_fieldK_198_1 : fieldK Tryd.prog 198 1 = some (1, false, 1) := by kernel_rfl
theorem tb_fieldK_198_2 : fieldK Tryd.prog 198 2 = some (2, false, 1) := by kernel_rfl
theorem tb_tk_199 : tk Tryd.prog 199 = TK.other := by kernel_rfl
theorem tb_loadK_199 : loadK Tryd.prog 199 = some (true, 9) := by kernel_rfl
theorem tb_zeroK_199 : zeroK Tryd.prog 199 = some [Value.int IntKind.u8 0, Value.int IntKind.i64 0, Value.int IntKind.i64 0, Value.int IntKind.u8 0, Value.int IntKind.i64 0, Value.int IntKind.i64 0, Value.int IntKind.u8 0, Value.int IntKind.i64 0, Value.int IntKind.i64 0] := by kernel_rfl
theorem tb_bytesK_199 : bytesK Tryd.prog 199 = some 72 := by kernel_rfl
theorem tb_sliceElem_199 : sliceElem Tryd.prog 199 = none := by kernel_rfl
theorem tb_arrElem_199 : arrElem Tryd.prog 199 = some (3, 3) := by kernel_rfl
theorem tb_placesK_199 : placesK Tryd.prog 199 = some [(0, 3), (3, 3), (6, 3), (9, 3), (12, 3), (15, 3), (18, 3), (21, 3)] := by kernel_rfl
theorem tb_byteEl_199 : byteEl Tryd.prog 199 = false := by kernel_rfl
theorem tb_flatK_199 : flatK Tryd.prog 199 = some [TypeDesc.int IntKind.u8, TypeDesc.int IntKind.i64, TypeDesc.int IntKind.i64, TypeDesc.int IntKind.u8, TypeDesc.int IntKind.i64, TypeDesc.int IntKind.i64, TypeDesc.int IntKind.u8, TypeDesc.int IntKind.i64, TypeDesc.int IntKind.i64] := by kernel_rfl
theorem tb_arrLoad_199 : arrLoad Tryd.prog 199 = some (3, true, 3) := by kernel_rfl
theorem tb_tk_200 : tk Tryd.prog 200 = TK.mp := by kernel_rfl
theorem tb_loadK_200 : loadK Tryd.prog 200 = some (false, 1) := by kernel_rfl
theorem tb_zeroK_200 : zeroK Tryd.prog 200 = some [Value.map none] := by kernel_rfl
theorem tb_bytesK_200 : bytesK Tryd.prog 200 = some 8 := by kernel_rfl
theorem tb_byteEl_200 : byteEl Tryd.prog 200 = false := by kernel_rfl
theorem tb_mapK_200 : mapK Tryd.prog 200 = some (KD.agg [TypeDesc.int IntKind.i64, TypeDesc.int IntKind.i64], V.v (Value.int IntKind.i64 0)) := by kernel_rfl
theorem tb_tk_201 : tk Tryd.prog 201 = TK.other := by kernel_rfl
theorem tb_loadK_201 : loadK Tryd.prog 201 = some (false, 1) := by kernel_rfl
theorem tb_zeroK_201 : zeroK Tryd.prog 201 = some [Value.nilFunc] := by kernel_rfl
theorem tb_bytesK_201 : bytesK Tryd.prog 201 = some 8 := by kernel_rfl
theorem tb_sliceElem_201 : sliceElem Tryd.prog 201 = none := by kernel_rfl
theorem tb_arrElem_201 : arrElem Tryd.prog 201 = none := by kernel_rfl
theorem tb_byteEl_201 : byteEl Tryd.prog 201 = false := by kernel_rfl
theorem tb_tk_202 : tk Tryd.prog 202 = TK.other := by kernel_rfl
theorem tb_loadK_202 : loadK Tryd.prog 202 = some (false, 1) := by kernel_rfl
theorem tb_zeroK_202 : zeroK Tryd.prog 202 = some [Value.tuple { toList := [Value.agg { toList := [Value.int IntKind.u8 0, Value.int IntKind.i64 0, Value.int IntKind.i64 0] }, Value.int IntKind.i64 0] }] := by kernel_rfl
theorem tb_bytesK_202 : bytesK Tryd.prog 202 = some 0 := by kernel_rfl
theorem tb_sliceElem_202 : sliceElem Tryd.prog 202 = none := by kernel_rfl
theorem tb_arrElem_202 : arrElem Tryd.prog 202 = none := by kernel_rfl
theorem tb_byteEl_202 : byteEl Tryd.prog 202 = false := by kernel_rfl
theorem tb_tk_204 : tk Tryd.prog 204 = TK.other := by kernel_rfl
theorem tb_loadK_204 : loadK Tryd.prog 204 = some (true, 5) := by kernel_rfl
theorem tb_zeroK_204 : zeroK Tryd.prog 204 = some [Value.int IntKind.i64 0, Value.int IntKind.i64 0, Value.int IntKind.i64 0, Value.int IntKind.u8 0, Value.string ByteArray.empty] := by kernel_rfl
theorem tb_bytesK_204 : bytesK Tryd.prog 204 = some 48 := by kernel_rfl
theorem tb_sliceElem_204 : sliceElem Tryd.prog 204 = none := by kernel_rfl
theorem tb_arrElem_204 : arrElem Tryd.prog 204 = none := by kernel_rfl
theorem tb_placesK_204 : placesK Tryd.prog 204 = some [(0, 3), (3, 1), (4, 1)] := by kernel_rfl
theorem tb_byteEl_204 : byteEl Tryd.prog 204 = false := by kernel_rfl
theorem tb_flatK_204 : flatK Tryd.prog 204 = some [TypeDesc.int IntKind.i64, TypeDesc.int IntKind.i64, TypeDesc.int IntKind.i64, TypeDesc.int IntKind.u8, TypeDesc.string] := by kernel_rfl
theorem tb_fieldK_204_0 : fieldK Tryd.prog 204 0 = some (0, true, 3) := by kernel_rfl
theorem tb_fieldK_204_1 : fieldK Tryd.prog 204 1 = some (3, false, 1) := by kernel_rfl
theorem tb_fieldK_204_2 : fieldK Tryd.prog 204 2 = some (4, false, 1) := by kernel_rfl
theorem mixed : Tryd.prog.follows .mixedOrders = true := by kernel_rfl
attribute [go_sem] tb_tk_0 tb_loadK_0 tb_zeroK_0 tb_bytesK_0 tb_sliceElem_0 tb_arrElem_0 tb_byteEl_0 tb_tk_1 tb_loadK_1 tb_zeroK_1 tb_bytesK_1 tb_sliceElem_1
attribute [go_sem] tb_arrElem_1 tb_byteEl_1 tb_tk_2 tb_loadK_2 tb_zeroK_2 tb_bytesK_2 tb_byteEl_2 tb_tk_3 tb_loadK_3 tb_zeroK_3 tb_bytesK_3 tb_byteEl_3
attribute [go_sem] tb_tk_4 tb_loadK_4 tb_zeroK_4 tb_bytesK_4 tb_byteEl_4 tb_tk_5 tb_loadK_5 tb_zeroK_5 tb_bytesK_5 tb_byteEl_5 tb_tk_6 tb_loadK_6
attribute [go_sem] tb_zeroK_6 tb_bytesK_6 tb_byteEl_6 tb_tk_7 tb_loadK_7 tb_zeroK_7 tb_bytesK_7 tb_sliceElem_7 tb_arrElem_7 tb_placesK_7 tb_byteEl_7 tb_flatK_7
attribute [go_sem] tb_fieldK_7_0 tb_fieldK_7_1 tb_fieldK_7_2 tb_fieldK_7_3 tb_tk_8 tb_loadK_8 tb_zeroK_8 tb_bytesK_8 tb_sliceElem_8 tb_arrElem_8 tb_placesK_8 tb_byteEl_8
attribute [go_sem] tb_flatK_8 tb_fieldK_8_0 tb_fieldK_8_1 tb_fieldK_8_2 tb_fieldK_8_3 tb_tk_9 tb_loadK_9 tb_zeroK_9 tb_bytesK_9 tb_byteEl_9 tb_arrLoad_9 tb_tk_10
attribute [go_sem] tb_loadK_10 tb_zeroK_10 tb_bytesK_10 tb_byteEl_10 tb_arrLoad_10 tb_tk_11 tb_loadK_11 tb_zeroK_11 tb_bytesK_11 tb_byteEl_11 tb_arrLoad_11 tb_tk_12
attribute [go_sem] tb_loadK_12 tb_zeroK_12 tb_bytesK_12 tb_byteEl_12 tb_tk_13 tb_loadK_13 tb_zeroK_13 tb_bytesK_13 tb_sliceElem_13 tb_arrElem_13 tb_placesK_13 tb_byteEl_13
attribute [go_sem] tb_fieldK_13_0 tb_fieldK_13_1 tb_tk_14 tb_loadK_14 tb_zeroK_14 tb_bytesK_14 tb_sliceElem_14 tb_arrElem_14 tb_placesK_14 tb_byteEl_14 tb_fieldK_14_0 tb_fieldK_14_1
attribute [go_sem] tb_tk_15 tb_loadK_15 tb_zeroK_15 tb_bytesK_15 tb_sliceElem_15 tb_arrElem_15 tb_byteEl_15 tb_tk_16 tb_loadK_16 tb_zeroK_16 tb_bytesK_16 tb_sliceElem_16
attribute [go_sem] tb_arrElem_16 tb_byteEl_16 tb_tk_17 tb_loadK_17 tb_zeroK_17 tb_bytesK_17 tb_sliceElem_17 tb_arrElem_17 tb_byteEl_17 tb_tk_18 tb_loadK_18 tb_zeroK_18
attribute [go_sem] tb_bytesK_18 tb_sliceElem_18 tb_arrElem_18 tb_placesK_18 tb_byteEl_18 tb_fieldK_18_0 tb_tk_19 tb_loadK_19 tb_zeroK_19 tb_bytesK_19 tb_sliceElem_19 tb_arrElem_19
attribute [go_sem] tb_placesK_19 tb_byteEl_19 tb_fieldK_19_0 tb_tk_20 tb_loadK_20 tb_zeroK_20 tb_bytesK_20 tb_sliceElem_20 tb_arrElem_20 tb_byteEl_20 tb_tk_21 tb_loadK_21
attribute [go_sem] tb_zeroK_21 tb_bytesK_21 tb_byteEl_21 tb_tk_22 tb_loadK_22 tb_zeroK_22 tb_bytesK_22 tb_sliceElem_22 tb_arrElem_22 tb_byteEl_22 tb_tk_23 tb_loadK_23
attribute [go_sem] tb_zeroK_23 tb_bytesK_23 tb_byteEl_23 tb_tk_24 tb_loadK_24 tb_zeroK_24 tb_bytesK_24 tb_sliceElem_24 tb_arrElem_24 tb_byteEl_24 tb_tk_25 tb_loadK_25
attribute [go_sem] tb_zeroK_25 tb_bytesK_25 tb_sliceElem_25 tb_arrElem_25 tb_byteEl_25 tb_tk_26 tb_loadK_26 tb_zeroK_26 tb_bytesK_26 tb_sliceElem_26 tb_arrElem_26 tb_byteEl_26
attribute [go_sem] tb_tk_27 tb_loadK_27 tb_zeroK_27 tb_bytesK_27 tb_sliceElem_27 tb_arrElem_27 tb_placesK_27 tb_byteEl_27 tb_fieldK_27_0 tb_tk_28 tb_loadK_28 tb_zeroK_28
attribute [go_sem] tb_bytesK_28 tb_sliceElem_28 tb_arrElem_28 tb_placesK_28 tb_byteEl_28 tb_fieldK_28_0 tb_tk_29 tb_loadK_29 tb_zeroK_29 tb_bytesK_29 tb_sliceElem_29 tb_arrElem_29
attribute [go_sem] tb_byteEl_29 tb_tk_30 tb_loadK_30 tb_zeroK_30 tb_bytesK_30 tb_sliceElem_30 tb_arrElem_30 tb_byteEl_30 tb_tk_31 tb_loadK_31 tb_zeroK_31 tb_bytesK_31
attribute [go_sem] tb_sliceElem_31 tb_arrElem_31 tb_byteEl_31 tb_tk_32 tb_loadK_32 tb_zeroK_32 tb_bytesK_32 tb_sliceElem_32 tb_arrElem_32 tb_placesK_32 tb_byteEl_32 tb_fieldK_32_0
attribute [go_sem] tb_fieldK_32_1 tb_fieldK_32_2 tb_fieldK_32_3 tb_tk_33 tb_loadK_33 tb_zeroK_33 tb_bytesK_33 tb_sliceElem_33 tb_arrElem_33 tb_placesK_33 tb_byteEl_33 tb_fieldK_33_0
attribute [go_sem] tb_fieldK_33_1 tb_fieldK_33_2 tb_fieldK_33_3 tb_tk_34 tb_loadK_34 tb_zeroK_34 tb_bytesK_34 tb_sliceElem_34 tb_arrElem_34 tb_byteEl_34 tb_tk_35 tb_loadK_35
attribute [go_sem] tb_zeroK_35 tb_bytesK_35 tb_sliceElem_35 tb_arrElem_35 tb_byteEl_35 tb_tk_36 tb_loadK_36 tb_zeroK_36 tb_bytesK_36 tb_sliceElem_36 tb_arrElem_36 tb_byteEl_36
attribute [go_sem] tb_tk_37 tb_loadK_37 tb_zeroK_37 tb_bytesK_37 tb_sliceElem_37 tb_arrElem_37 tb_byteEl_37 tb_tk_38 tb_loadK_38 tb_zeroK_38 tb_bytesK_38 tb_sliceElem_38
attribute [go_sem] tb_arrElem_38 tb_byteEl_38 tb_tk_39 tb_loadK_39 tb_zeroK_39 tb_bytesK_39 tb_sliceElem_39 tb_arrElem_39 tb_byteEl_39
attribute [go_sem] tb_tk_42 tb_loadK_42 tb_zeroK_42 tb_bytesK_42 tb_sliceElem_42 tb_arrElem_42 tb_placesK_42
attribute [go_sem] tb_byteEl_42 tb_flatK_42 tb_fieldK_42_0 tb_fieldK_42_1 tb_fieldK_42_2 tb_fieldK_42_3 tb_tk_43 tb_loadK_43 tb_zeroK_43 tb_bytesK_43 tb_sliceElem_43 tb_arrElem_43
attribute [go_sem] tb_byteEl_43 tb_tk_44 tb_loadK_44 tb_zeroK_44 tb_bytesK_44 tb_sliceElem_44 tb_arrElem_44 tb_placesK_44 tb_byteEl_44 tb_fieldK_44_0 tb_fieldK_44_1 tb_tk_45
attribute [go_sem] tb_loadK_45 tb_zeroK_45 tb_bytesK_45 tb_sliceElem_45 tb_arrElem_45 tb_placesK_45 tb_byteEl_45 tb_fieldK_45_0 tb_fieldK_45_1 tb_tk_46 tb_loadK_46 tb_zeroK_46
attribute [go_sem] tb_bytesK_46 tb_sliceElem_46 tb_arrElem_46 tb_byteEl_46 tb_tk_47 tb_loadK_47 tb_zeroK_47 tb_bytesK_47 tb_sliceElem_47 tb_arrElem_47 tb_byteEl_47 tb_tk_48
attribute [go_sem] tb_loadK_48 tb_zeroK_48 tb_bytesK_48 tb_sliceElem_48 tb_arrElem_48 tb_byteEl_48 tb_tk_49 tb_loadK_49 tb_zeroK_49 tb_bytesK_49 tb_sliceElem_49 tb_arrElem_49
attribute [go_sem] tb_byteEl_49 tb_tk_50 tb_loadK_50 tb_zeroK_50 tb_bytesK_50 tb_sliceElem_50 tb_arrElem_50 tb_byteEl_50 tb_tk_51 tb_loadK_51 tb_zeroK_51 tb_bytesK_51
attribute [go_sem] tb_sliceElem_51 tb_arrElem_51 tb_byteEl_51 tb_tk_52 tb_loadK_52 tb_zeroK_52 tb_bytesK_52 tb_sliceElem_52 tb_arrElem_52 tb_placesK_52 tb_byteEl_52 tb_flatK_52
attribute [go_sem] tb_fieldK_52_0 tb_fieldK_52_1 tb_tk_53 tb_loadK_53 tb_zeroK_53 tb_bytesK_53 tb_sliceElem_53 tb_arrElem_53 tb_placesK_53 tb_byteEl_53 tb_flatK_53 tb_fieldK_53_0
attribute [go_sem] tb_fieldK_53_1 tb_tk_54 tb_loadK_54 tb_zeroK_54 tb_bytesK_54 tb_sliceElem_54 tb_arrElem_54 tb_byteEl_54
attribute [go_sem] tb_tk_57 tb_loadK_57
attribute [go_sem] tb_zeroK_57 tb_bytesK_57 tb_sliceElem_57 tb_arrElem_57 tb_byteEl_57 tb_tk_58 tb_loadK_58 tb_zeroK_58 tb_bytesK_58 tb_sliceElem_58 tb_arrElem_58 tb_byteEl_58
attribute [go_sem] tb_tk_59 tb_loadK_59 tb_zeroK_59 tb_bytesK_59 tb_sliceElem_59 tb_arrElem_59 tb_byteEl_59 tb_tk_60 tb_loadK_60 tb_zeroK_60 tb_bytesK_60 tb_sliceElem_60
attribute [go_sem] tb_arrElem_60 tb_byteEl_60 tb_tk_61 tb_loadK_61 tb_zeroK_61 tb_bytesK_61 tb_sliceElem_61 tb_arrElem_61 tb_byteEl_61 tb_tk_62 tb_loadK_62 tb_zeroK_62
attribute [go_sem] tb_bytesK_62 tb_sliceElem_62 tb_arrElem_62 tb_byteEl_62 tb_tk_63 tb_loadK_63 tb_zeroK_63 tb_bytesK_63 tb_sliceElem_63 tb_arrElem_63 tb_byteEl_63
attribute [go_sem] tb_tk_66 tb_loadK_66 tb_zeroK_66 tb_bytesK_66 tb_sliceElem_66 tb_arrElem_66 tb_placesK_66 tb_byteEl_66 tb_flatK_66 tb_arrLoad_66 tb_tk_67
attribute [go_sem] tb_loadK_67 tb_zeroK_67 tb_bytesK_67 tb_sliceElem_67 tb_arrElem_67 tb_byteEl_67 tb_tk_68 tb_loadK_68 tb_zeroK_68 tb_bytesK_68 tb_sliceElem_68 tb_arrElem_68
attribute [go_sem] tb_placesK_68 tb_byteEl_68 tb_flatK_68 tb_fieldK_68_0 tb_fieldK_68_1 tb_fieldK_68_2 tb_tk_69 tb_loadK_69 tb_zeroK_69 tb_bytesK_69 tb_sliceElem_69 tb_arrElem_69
attribute [go_sem] tb_placesK_69 tb_byteEl_69 tb_flatK_69 tb_fieldK_69_0 tb_fieldK_69_1 tb_fieldK_69_2 tb_tk_70 tb_loadK_70 tb_zeroK_70 tb_bytesK_70 tb_sliceElem_70 tb_arrElem_70
attribute [go_sem] tb_byteEl_70 tb_tk_71 tb_loadK_71 tb_zeroK_71 tb_bytesK_71 tb_sliceElem_71 tb_arrElem_71 tb_byteEl_71
attribute [go_sem] tb_tk_73 tb_loadK_73 tb_zeroK_73 tb_bytesK_73 tb_sliceElem_73 tb_arrElem_73 tb_byteEl_73
attribute [go_sem] tb_tk_75 tb_loadK_75 tb_zeroK_75
attribute [go_sem] tb_bytesK_75 tb_sliceElem_75 tb_arrElem_75 tb_placesK_75 tb_byteEl_75 tb_fieldK_75_0 tb_fieldK_75_1 tb_fieldK_75_2 tb_tk_76 tb_loadK_76 tb_zeroK_76 tb_bytesK_76
attribute [go_sem] tb_sliceElem_76 tb_arrElem_76 tb_placesK_76 tb_byteEl_76 tb_flatK_76 tb_fieldK_76_0 tb_fieldK_76_1 tb_fieldK_76_2 tb_tk_77 tb_loadK_77 tb_zeroK_77 tb_bytesK_77
attribute [go_sem] tb_sliceElem_77 tb_arrElem_77 tb_placesK_77 tb_byteEl_77 tb_flatK_77 tb_fieldK_77_0 tb_fieldK_77_1 tb_fieldK_77_2 tb_tk_78 tb_loadK_78 tb_zeroK_78 tb_bytesK_78
attribute [go_sem] tb_sliceElem_78 tb_arrElem_78 tb_byteEl_78 tb_tk_79 tb_loadK_79 tb_zeroK_79 tb_bytesK_79 tb_sliceElem_79 tb_arrElem_79 tb_placesK_79 tb_byteEl_79 tb_fieldK_79_0
attribute [go_sem] tb_fieldK_79_1 tb_tk_80 tb_loadK_80 tb_zeroK_80 tb_bytesK_80 tb_sliceElem_80 tb_arrElem_80 tb_placesK_80 tb_byteEl_80 tb_fieldK_80_0 tb_fieldK_80_1 tb_tk_81
attribute [go_sem] tb_loadK_81 tb_zeroK_81 tb_bytesK_81 tb_sliceElem_81 tb_arrElem_81 tb_byteEl_81
attribute [go_sem] tb_tk_83 tb_loadK_83 tb_zeroK_83 tb_bytesK_83 tb_sliceElem_83 tb_arrElem_83 tb_byteEl_83 tb_tk_84 tb_loadK_84 tb_zeroK_84 tb_bytesK_84
attribute [go_sem] tb_sliceElem_84 tb_arrElem_84 tb_byteEl_84 tb_tk_86 tb_loadK_86
attribute [go_sem] tb_zeroK_86 tb_bytesK_86 tb_sliceElem_86 tb_arrElem_86 tb_byteEl_86
attribute [go_sem] tb_tk_88 tb_loadK_88 tb_zeroK_88 tb_bytesK_88 tb_sliceElem_88 tb_arrElem_88 tb_byteEl_88
attribute [go_sem] tb_tk_90 tb_loadK_90 tb_zeroK_90 tb_bytesK_90 tb_sliceElem_90 tb_arrElem_90 tb_byteEl_90 tb_tk_91 tb_loadK_91 tb_zeroK_91
attribute [go_sem] tb_bytesK_91 tb_byteEl_91 tb_mapK_91 tb_tk_92 tb_loadK_92 tb_zeroK_92 tb_bytesK_92 tb_sliceElem_92 tb_arrElem_92 tb_byteEl_92
attribute [go_sem] tb_tk_94 tb_loadK_94 tb_zeroK_94 tb_bytesK_94 tb_sliceElem_94 tb_arrElem_94 tb_byteEl_94
attribute [go_sem] tb_tk_95 tb_loadK_95 tb_zeroK_95 tb_bytesK_95 tb_sliceElem_95 tb_arrElem_95 tb_placesK_95 tb_byteEl_95 tb_flatK_95 tb_fieldK_95_0 tb_fieldK_95_1 tb_fieldK_95_2
attribute [go_sem] tb_tk_96 tb_loadK_96 tb_zeroK_96 tb_bytesK_96 tb_sliceElem_96 tb_arrElem_96 tb_placesK_96 tb_byteEl_96 tb_flatK_96 tb_fieldK_96_0 tb_fieldK_96_1 tb_fieldK_96_2
attribute [go_sem] tb_tk_97 tb_loadK_97 tb_zeroK_97 tb_bytesK_97 tb_sliceElem_97 tb_arrElem_97 tb_placesK_97 tb_byteEl_97 tb_flatK_97 tb_fieldK_97_0 tb_fieldK_97_1 tb_fieldK_97_2
attribute [go_sem] tb_fieldK_97_3 tb_tk_98 tb_loadK_98 tb_zeroK_98 tb_bytesK_98 tb_sliceElem_98 tb_arrElem_98 tb_placesK_98 tb_byteEl_98 tb_flatK_98 tb_fieldK_98_0 tb_fieldK_98_1
attribute [go_sem] tb_fieldK_98_2 tb_fieldK_98_3 tb_tk_99 tb_loadK_99 tb_zeroK_99 tb_bytesK_99 tb_sliceElem_99 tb_arrElem_99 tb_byteEl_99
attribute [go_sem] tb_tk_101 tb_loadK_101 tb_zeroK_101 tb_bytesK_101 tb_sliceElem_101 tb_arrElem_101 tb_byteEl_101
attribute [go_sem] tb_tk_103 tb_loadK_103 tb_zeroK_103 tb_bytesK_103 tb_sliceElem_103 tb_arrElem_103
attribute [go_sem] tb_byteEl_103 tb_tk_104 tb_loadK_104 tb_zeroK_104 tb_bytesK_104 tb_sliceElem_104 tb_arrElem_104 tb_byteEl_104 tb_tk_105 tb_loadK_105 tb_zeroK_105 tb_bytesK_105
attribute [go_sem] tb_sliceElem_105 tb_arrElem_105 tb_byteEl_105 tb_tk_106 tb_loadK_106 tb_zeroK_106 tb_bytesK_106 tb_sliceElem_106 tb_arrElem_106 tb_byteEl_106
attribute [go_sem] tb_tk_108 tb_loadK_108 tb_zeroK_108 tb_bytesK_108 tb_sliceElem_108 tb_arrElem_108 tb_byteEl_108
attribute [go_sem] tb_tk_111 tb_loadK_111 tb_zeroK_111 tb_bytesK_111 tb_sliceElem_111 tb_arrElem_111 tb_byteEl_111 tb_tk_112 tb_loadK_112 tb_zeroK_112
attribute [go_sem] tb_bytesK_112 tb_byteEl_112 tb_mapK_112 tb_tk_113 tb_loadK_113 tb_zeroK_113 tb_bytesK_113 tb_sliceElem_113 tb_arrElem_113 tb_byteEl_113
attribute [go_sem] tb_tk_115 tb_loadK_115
attribute [go_sem] tb_zeroK_115 tb_bytesK_115 tb_sliceElem_115 tb_arrElem_115 tb_placesK_115 tb_byteEl_115 tb_flatK_115 tb_fieldK_115_0 tb_fieldK_115_1 tb_fieldK_115_2 tb_tk_116 tb_loadK_116
attribute [go_sem] tb_zeroK_116 tb_bytesK_116 tb_sliceElem_116 tb_arrElem_116 tb_byteEl_116 tb_tk_117 tb_loadK_117 tb_zeroK_117 tb_bytesK_117 tb_sliceElem_117 tb_arrElem_117 tb_byteEl_117
attribute [go_sem] tb_tk_119 tb_loadK_119
attribute [go_sem] tb_zeroK_119 tb_bytesK_119 tb_sliceElem_119 tb_arrElem_119 tb_placesK_119 tb_byteEl_119 tb_fieldK_119_0 tb_fieldK_119_1 tb_tk_120 tb_loadK_120 tb_zeroK_120 tb_bytesK_120
attribute [go_sem] tb_sliceElem_120 tb_arrElem_120 tb_placesK_120 tb_byteEl_120 tb_arrLoad_120 tb_tk_121 tb_loadK_121 tb_zeroK_121 tb_bytesK_121 tb_sliceElem_121 tb_arrElem_121 tb_byteEl_121
attribute [go_sem] tb_tk_127
attribute [go_sem] tb_loadK_127 tb_zeroK_127 tb_bytesK_127 tb_sliceElem_127 tb_arrElem_127 tb_byteEl_127
attribute [go_sem] tb_tk_129 tb_loadK_129 tb_zeroK_129 tb_bytesK_129 tb_sliceElem_129 tb_arrElem_129 tb_byteEl_129
attribute [go_sem] tb_tk_133 tb_loadK_133 tb_zeroK_133 tb_bytesK_133 tb_sliceElem_133 tb_arrElem_133 tb_byteEl_133
attribute [go_sem] tb_tk_134 tb_loadK_134 tb_zeroK_134 tb_bytesK_134 tb_sliceElem_134 tb_arrElem_134 tb_placesK_134 tb_byteEl_134 tb_flatK_134 tb_arrLoad_134
attribute [go_sem] tb_tk_137 tb_loadK_137 tb_zeroK_137 tb_bytesK_137 tb_sliceElem_137 tb_arrElem_137 tb_byteEl_137
attribute [go_sem] tb_tk_141 tb_loadK_141 tb_zeroK_141 tb_bytesK_141
attribute [go_sem] tb_sliceElem_141 tb_arrElem_141 tb_placesK_141 tb_byteEl_141 tb_fieldK_141_0 tb_fieldK_141_1 tb_fieldK_141_2
attribute [go_sem] tb_tk_147 tb_loadK_147 tb_zeroK_147 tb_bytesK_147 tb_sliceElem_147 tb_arrElem_147
attribute [go_sem] tb_byteEl_147 tb_tk_148 tb_loadK_148 tb_zeroK_148 tb_bytesK_148 tb_sliceElem_148 tb_arrElem_148 tb_byteEl_148
attribute [go_sem] tb_tk_151 tb_loadK_151 tb_zeroK_151 tb_bytesK_151 tb_sliceElem_151 tb_arrElem_151 tb_placesK_151 tb_byteEl_151
attribute [go_sem] tb_flatK_151 tb_fieldK_151_0 tb_fieldK_151_1 tb_fieldK_151_2 tb_fieldK_151_3
attribute [go_sem] tb_tk_153 tb_loadK_153 tb_zeroK_153 tb_bytesK_153 tb_sliceElem_153 tb_arrElem_153 tb_byteEl_153 tb_tk_154 tb_loadK_154 tb_zeroK_154 tb_bytesK_154 tb_sliceElem_154
attribute [go_sem] tb_arrElem_154 tb_byteEl_154
attribute [go_sem] tb_tk_157 tb_loadK_157 tb_zeroK_157 tb_bytesK_157 tb_sliceElem_157 tb_arrElem_157 tb_byteEl_157 tb_tk_158
attribute [go_sem] tb_loadK_158 tb_zeroK_158 tb_bytesK_158 tb_sliceElem_158 tb_arrElem_158 tb_placesK_158 tb_byteEl_158 tb_fieldK_158_0 tb_tk_159 tb_loadK_159 tb_zeroK_159 tb_bytesK_159
attribute [go_sem] tb_sliceElem_159 tb_arrElem_159 tb_placesK_159 tb_byteEl_159 tb_arrLoad_159
attribute [go_sem] tb_tk_162 tb_loadK_162 tb_zeroK_162 tb_bytesK_162 tb_sliceElem_162
attribute [go_sem] tb_arrElem_162 tb_byteEl_162 tb_tk_163 tb_loadK_163 tb_zeroK_163 tb_bytesK_163 tb_sliceElem_163 tb_arrElem_163 tb_byteEl_163
attribute [go_sem] tb_tk_165 tb_loadK_165 tb_zeroK_165 tb_bytesK_165 tb_sliceElem_165
attribute [go_sem] tb_arrElem_165 tb_placesK_165 tb_byteEl_165 tb_fieldK_165_0 tb_fieldK_165_1
attribute [go_sem] tb_tk_168 tb_loadK_168 tb_zeroK_168 tb_bytesK_168 tb_sliceElem_168
attribute [go_sem] tb_arrElem_168 tb_byteEl_168 tb_tk_169 tb_loadK_169 tb_zeroK_169 tb_bytesK_169 tb_sliceElem_169 tb_arrElem_169 tb_byteEl_169
attribute [go_sem] tb_tk_172
attribute [go_sem] tb_loadK_172 tb_zeroK_172 tb_bytesK_172 tb_sliceElem_172 tb_arrElem_172 tb_byteEl_172 tb_tk_173 tb_loadK_173 tb_zeroK_173 tb_bytesK_173 tb_sliceElem_173 tb_arrElem_173
attribute [go_sem] tb_byteEl_173
attribute [go_sem] tb_tk_192
attribute [go_sem] tb_loadK_192 tb_zeroK_192 tb_bytesK_192 tb_sliceElem_192 tb_arrElem_192 tb_byteEl_192
attribute [go_sem] tb_tk_195 tb_loadK_195 tb_zeroK_195 tb_bytesK_195
attribute [go_sem] tb_sliceElem_195 tb_arrElem_195 tb_byteEl_195
attribute [go_sem] tb_tk_198 tb_loadK_198
attribute [go_sem] tb_zeroK_198 tb_bytesK_198 tb_sliceElem_198 tb_arrElem_198 tb_placesK_198 tb_byteEl_198 tb_flatK_198 tb_fieldK_198_0 tb_fieldK_198_1 tb_fieldK_198_2 tb_tk_199 tb_loadK_199
attribute [go_sem] tb_zeroK_199 tb_bytesK_199 tb_sliceElem_199 tb_arrElem_199 tb_placesK_199 tb_byteEl_199 tb_flatK_199 tb_arrLoad_199 tb_tk_200 tb_loadK_200 tb_zeroK_200 tb_bytesK_200
attribute [go_sem] tb_byteEl_200 tb_mapK_200 tb_tk_201 tb_loadK_201 tb_zeroK_201 tb_bytesK_201 tb_sliceElem_201 tb_arrElem_201 tb_byteEl_201 tb_tk_202 tb_loadK_202 tb_zeroK_202
attribute [go_sem] tb_bytesK_202 tb_sliceElem_202 tb_arrElem_202 tb_byteEl_202
attribute [go_sem] tb_tk_204 tb_loadK_204 tb_zeroK_204 tb_bytesK_204 tb_sliceElem_204 tb_arrElem_204 tb_placesK_204 tb_byteEl_204
attribute [go_sem] tb_flatK_204 tb_fieldK_204_0 tb_fieldK_204_1 tb_fieldK_204_2
end Go.Proofs.YtagfopbijboajaaDoor
