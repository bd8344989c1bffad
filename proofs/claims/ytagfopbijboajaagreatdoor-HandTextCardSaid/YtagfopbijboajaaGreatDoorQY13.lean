import Derived.Test.YtagfopbijboajaaGreatDoorProg
import Derived.KernelRfl
import Derived.Test.YtagfopbijboajaaGreatDoorQY10
namespace Go.Proofs.YtagfopbijboajaaGreatDoor
open Go Pm
theorem tb_tk_0 : tk Tryz.prog 0 = TK.other := by kernel_rfl
theorem tb_loadK_0 : loadK Tryz.prog 0 = some (false, 1) := by kernel_rfl
theorem tb_zeroK_0 : zeroK Tryz.prog 0 = some [Value.tuple { toList := [] }] := by kernel_rfl
theorem tb_bytesK_0 : bytesK Tryz.prog 0 = some 0 := by kernel_rfl
theorem tb_sliceElem_0 : sliceElem Tryz.prog 0 = none := by kernel_rfl
theorem tb_arrElem_0 : arrElem Tryz.prog 0 = none := by kernel_rfl
theorem tb_byteEl_0 : byteEl Tryz.prog 0 = false := by kernel_rfl
theorem tb_tk_1 : tk Tryz.prog 1 = TK.other := by kernel_rfl
theorem tb_loadK_1 : loadK Tryz.prog 1 = some (false, 1) := by kernel_rfl
theorem tb_zeroK_1 : zeroK Tryz.prog 1 = some [Value.nilFunc] := by kernel_rfl
theorem tb_bytesK_1 : bytesK Tryz.prog 1 = some 8 := by kernel_rfl
theorem tb_sliceElem_1 : sliceElem Tryz.prog 1 = none := by kernel_rfl
theorem tb_arrElem_1 : arrElem Tryz.prog 1 = none := by kernel_rfl
theorem tb_byteEl_1 : byteEl Tryz.prog 1 = false := by kernel_rfl
theorem tb_tk_2 : tk Tryz.prog 2 = TK.int IntKind.i64 := by kernel_rfl
theorem tb_loadK_2 : loadK Tryz.prog 2 = some (false, 1) := by kernel_rfl
theorem tb_zeroK_2 : zeroK Tryz.prog 2 = some [Value.int IntKind.i64 0] := by kernel_rfl
theorem tb_bytesK_2 : bytesK Tryz.prog 2 = some 8 := by kernel_rfl
theorem tb_byteEl_2 : byteEl Tryz.prog 2 = false := by kernel_rfl
theorem tb_tk_3 : tk Tryz.prog 3 = TK.int IntKind.i64 := by kernel_rfl
theorem tb_loadK_3 : loadK Tryz.prog 3 = some (false, 1) := by kernel_rfl
theorem tb_zeroK_3 : zeroK Tryz.prog 3 = some [Value.int IntKind.i64 0] := by kernel_rfl
theorem tb_bytesK_3 : bytesK Tryz.prog 3 = some 8 := by kernel_rfl
theorem tb_byteEl_3 : byteEl Tryz.prog 3 = false := by kernel_rfl
theorem tb_tk_4 : tk Tryz.prog 4 = TK.bool := by kernel_rfl
theorem tb_loadK_4 : loadK Tryz.prog 4 = some (false, 1) := by kernel_rfl
theorem tb_zeroK_4 : zeroK Tryz.prog 4 = some [Value.bool false] := by kernel_rfl
theorem tb_bytesK_4 : bytesK Tryz.prog 4 = some 1 := by kernel_rfl
theorem tb_byteEl_4 : byteEl Tryz.prog 4 = false := by kernel_rfl
theorem tb_tk_5 : tk Tryz.prog 5 = TK.int IntKind.u8 := by kernel_rfl
theorem tb_loadK_5 : loadK Tryz.prog 5 = some (false, 1) := by kernel_rfl
theorem tb_zeroK_5 : zeroK Tryz.prog 5 = some [Value.int IntKind.u8 0] := by kernel_rfl
theorem tb_bytesK_5 : bytesK Tryz.prog 5 = some 1 := by kernel_rfl
theorem tb_byteEl_5 : byteEl Tryz.prog 5 = false := by kernel_rfl
theorem tb_tk_6 : tk Tryz.prog 6 = TK.int IntKind.u8 := by kernel_rfl
theorem tb_loadK_6 : loadK Tryz.prog 6 = some (false, 1) := by kernel_rfl
theorem tb_zeroK_6 : zeroK Tryz.prog 6 = some [Value.int IntKind.u8 0] := by kernel_rfl
theorem tb_bytesK_6 : bytesK Tryz.prog 6 = some 1 := by kernel_rfl
theorem tb_byteEl_6 : byteEl Tryz.prog 6 = false := by kernel_rfl
theorem tb_tk_7 : tk Tryz.prog 7 = TK.other := by kernel_rfl
theorem tb_loadK_7 : loadK Tryz.prog 7 = some (true, 4) := by kernel_rfl
theorem tb_zeroK_7 : zeroK Tryz.prog 7 = some [Value.int IntKind.i64 0, Value.int IntKind.i64 0, Value.bool false, Value.int IntKind.u8 0] := by kernel_rfl
theorem tb_bytesK_7 : bytesK Tryz.prog 7 = some 24 := by kernel_rfl
theorem tb_sliceElem_7 : sliceElem Tryz.prog 7 = none := by kernel_rfl
theorem tb_arrElem_7 : arrElem Tryz.prog 7 = none := by kernel_rfl
theorem tb_placesK_7 : placesK Tryz.prog 7 = some [(0, 1), (1, 1), (2, 1), (3, 1)] := by kernel_rfl
theorem tb_byteEl_7 : byteEl Tryz.prog 7 = false := by kernel_rfl
theorem tb_flatK_7 : flatK Tryz.prog 7 = some [TypeDesc.int IntKind.i64, TypeDesc.int IntKind.i64, TypeDesc.bool, TypeDesc.int IntKind.u8] := by kernel_rfl
theorem tb_fieldK_7_0 : fieldK Tryz.prog 7 0 = some (0, false, 1) := by kernel_rfl
theorem tb_fieldK_7_1 : fieldK Tryz.prog 7 1 = some (1, false, 1) := by kernel_rfl
theorem tb_fieldK_7_2 : fieldK Tryz.prog 7 2 = some (2, false, 1) := by kernel_rfl
theorem tb_fieldK_7_3 : fieldK Tryz.prog 7 3 = some (3, false, 1) := by kernel_rfl
theorem tb_tk_8 : tk Tryz.prog 8 = TK.other := by kernel_rfl
theorem tb_loadK_8 : loadK Tryz.prog 8 = some (true, 4) := by kernel_rfl
theorem tb_zeroK_8 : zeroK Tryz.prog 8 = some [Value.int IntKind.i64 0, Value.int IntKind.i64 0, Value.bool false, Value.int IntKind.u8 0] := by kernel_rfl
theorem tb_bytesK_8 : bytesK Tryz.prog 8 = some 24 := by kernel_rfl
theorem tb_sliceElem_8 : sliceElem Tryz.prog 8 = none := by kernel_rfl
theorem tb_arrElem_8 : arrElem Tryz.prog 8 = none := by kernel_rfl
theorem tb_placesK_8 : placesK Tryz.prog 8 = some [(0, 1), (1, 1), (2, 1), (3, 1)] := by kernel_rfl
theorem tb_byteEl_8 : byteEl Tryz.prog 8 = false := by kernel_rfl
theorem tb_flatK_8 : flatK Tryz.prog 8 = some [TypeDesc.int IntKind.i64, TypeDesc.int IntKind.i64, TypeDesc.bool, TypeDesc.int IntKind.u8] := by kernel_rfl
theorem tb_fieldK_8_0 : fieldK Tryz.prog 8 0 = some (0, false, 1) := by kernel_rfl
theorem tb_fieldK_8_1 : fieldK Tryz.prog 8 1 = some (1, false, 1) := by kernel_rfl
theorem tb_fieldK_8_2 : fieldK Tryz.prog 8 2 = some (2, false, 1) := by kernel_rfl
theorem tb_fieldK_8_3 : fieldK Tryz.prog 8 3 = some (3, false, 1) := by kernel_rfl
theorem tb_tk_9 : tk Tryz.prog 9 = TK.str := by kernel_rfl
theorem tb_loadK_9 : loadK Tryz.prog 9 = some (false, 1) := by kernel_rfl
theorem tb_zeroK_9 : zeroK Tryz.prog 9 = some [Value.string ByteArray.empty] := by kernel_rfl
theorem tb_bytesK_9 : bytesK Tryz.prog 9 = some 16 := by kernel_rfl
theorem tb_byteEl_9 : byteEl Tryz.prog 9 = false := by kernel_rfl
theorem tb_arrLoad_9 : arrLoad Tryz.prog 9 = none := by kernel_rfl
theorem tb_tk_10 : tk Tryz.prog 10 = TK.str := by kernel_rfl
theorem tb_loadK_10 : loadK Tryz.prog 10 = some (false, 1) := by kernel_rfl
theorem tb_zeroK_10 : zeroK Tryz.prog 10 = some [Value.string ByteArray.empty] := by kernel_rfl
theorem tb_bytesK_10 : bytesK Tryz.prog 10 = some 16 := by kernel_rfl
theorem tb_byteEl_10 : byteEl Tryz.prog 10 = false := by kernel_rfl
theorem tb_arrLoad_10 : arrLoad Tryz.prog 10 = none := by kernel_rfl
theorem tb_tk_11 : tk Tryz.prog 11 = TK.str := by kernel_rfl
theorem tb_loadK_11 : loadK Tryz.prog 11 = some (false, 1) := by kernel_rfl
theorem tb_zeroK_11 : zeroK Tryz.prog 11 = some [Value.string ByteArray.empty] := by kernel_rfl
theorem tb_bytesK_11 : bytesK Tryz.prog 11 = some 16 := by kernel_rfl
theorem tb_byteEl_11 : byteEl Tryz.prog 11 = false := by kernel_rfl
theorem tb_arrLoad_11 : arrLoad Tryz.prog 11 = none := by kernel_rfl
theorem tb_tk_12 : tk Tryz.prog 12 = TK.int IntKind.u64 := by kernel_rfl
theorem tb_loadK_12 : loadK Tryz.prog 12 = some (false, 1) := by kernel_rfl
theorem tb_zeroK_12 : zeroK Tryz.prog 12 = some [Value.int IntKind.u64 0] := by kernel_rfl
theorem tb_bytesK_12 : bytesK Tryz.prog 12 = some 8 := by kernel_rfl
theorem tb_byteEl_12 : byteEl Tryz.prog 12 = false := by kernel_rfl
theorem tb_tk_13 : tk Tryz.prog 13 = TK.other := by kernel_rfl
theorem tb_loadK_13 : loadK Tryz.prog 13 = some (true, 2) := by kernel_rfl
theorem tb_zeroK_13 : zeroK Tryz.prog 13 = some [Value.string ByteArray.empty, Value.int IntKind.u64 0] := by kernel_rfl
theorem tb_bytesK_13 : bytesK Tryz.prog 13 = some 24 := by kernel_rfl
theorem tb_sliceElem_13 : sliceElem Tryz.prog 13 = none := by kernel_rfl
theorem tb_arrElem_13 : arrElem Tryz.prog 13 = none := by kernel_rfl
theorem tb_placesK_13 : placesK Tryz.prog 13 = some [(0, 1), (1, 1)] := by kernel_rfl
theorem tb_byteEl_13 : byteEl Tryz.prog 13 = false := by kernel_rfl
theorem tb_fieldK_13_0 : fieldK Tryz.prog 13 0 = some (0, false, 1) := by kernel_rfl
theorem tb_fieldK_13_1 : fieldK Tryz.prog 13 1 = some (1, false, 1) := by kernel_rfl
theorem tb_tk_14 : tk Tryz.prog 14 = TK.other := by kernel_rfl
theorem tb_loadK_14 : loadK Tryz.prog 14 = some (true, 2) := by kernel_rfl
theorem tb_zeroK_14 : zeroK Tryz.prog 14 = some [Value.string ByteArray.empty, Value.int IntKind.u64 0] := by kernel_rfl
theorem tb_bytesK_14 : bytesK Tryz.prog 14 = some 24 := by kernel_rfl
theorem tb_sliceElem_14 : sliceElem Tryz.prog 14 = none := by kernel_rfl
theorem tb_arrElem_14 : arrElem Tryz.prog 14 = none := by kernel_rfl
theorem tb_placesK_14 : placesK Tryz.prog 14 = some [(0, 1), (1, 1)] := by kernel_rfl
theorem tb_byteEl_14 : byteEl Tryz.prog 14 = false := by kernel_rfl
theorem tb_fieldK_14_0 : fieldK Tryz.prog 14 0 = some (0, false, 1) := by kernel_rfl
theorem tb_fieldK_14_1 : fieldK Tryz.prog 14 1 = some (1, false, 1) := by kernel_rfl
theorem tb_tk_15 : tk Tryz.prog 15 = TK.ptr := by kernel_rfl
theorem tb_loadK_15 : loadK Tryz.prog 15 = some (false, 1) := by kernel_rfl
theorem tb_zeroK_15 : zeroK Tryz.prog 15 = some [Value.pointer none] := by kernel_rfl
theorem tb_bytesK_15 : bytesK Tryz.prog 15 = some 8 := by kernel_rfl
theorem tb_sliceElem_15 : sliceElem Tryz.prog 15 = none := by kernel_rfl
theorem tb_arrElem_15 : arrElem Tryz.prog 15 = none := by kernel_rfl
theorem tb_byteEl_15 : byteEl Tryz.prog 15 = false := by kernel_rfl
theorem tb_tk_16 : tk Tryz.prog 16 = TK.ptr := by kernel_rfl
theorem tb_loadK_16 : loadK Tryz.prog 16 = some (false, 1) := by kernel_rfl
theorem tb_zeroK_16 : zeroK Tryz.prog 16 = some [Value.pointer none] := by kernel_rfl
theorem tb_bytesK_16 : bytesK Tryz.prog 16 = some 8 := by kernel_rfl
theorem tb_sliceElem_16 : sliceElem Tryz.prog 16 = none := by kernel_rfl
theorem tb_arrElem_16 : arrElem Tryz.prog 16 = none := by kernel_rfl
theorem tb_byteEl_16 : byteEl Tryz.prog 16 = false := by kernel_rfl
theorem tb_tk_17 : tk Tryz.prog 17 = TK.ptr := by kernel_rfl
theorem tb_loadK_17 : loadK Tryz.prog 17 = some (false, 1) := by kernel_rfl
theorem tb_zeroK_17 : zeroK Tryz.prog 17 = some [Value.pointer none] := by kernel_rfl
theorem tb_bytesK_17 : bytesK Tryz.prog 17 = some 8 := by kernel_rfl
theorem tb_sliceElem_17 : sliceElem Tryz.prog 17 = none := by kernel_rfl
theorem tb_arrElem_17 : arrElem Tryz.prog 17 = none := by kernel_rfl
theorem tb_byteEl_17 : byteEl Tryz.prog 17 = false := by kernel_rfl
theorem tb_tk_18 : tk Tryz.prog 18 = TK.other := by kernel_rfl
theorem tb_loadK_18 : loadK Tryz.prog 18 = some (true, 1) := by kernel_rfl
theorem tb_zeroK_18 : zeroK Tryz.prog 18 = some [Value.pointer none] := by kernel_rfl
theorem tb_bytesK_18 : bytesK Tryz.prog 18 = some 8 := by kernel_rfl
theorem tb_sliceElem_18 : sliceElem Tryz.prog 18 = none := by kernel_rfl
theorem tb_arrElem_18 : arrElem Tryz.prog 18 = none := by kernel_rfl
theorem tb_placesK_18 : placesK Tryz.prog 18 = some [(0, 1)] := by kernel_rfl
theorem tb_byteEl_18 : byteEl Tryz.prog 18 = false := by kernel_rfl
theorem tb_fieldK_18_0 : fieldK Tryz.prog 18 0 = some (0, false, 1) := by kernel_rfl
theorem tb_tk_19 : tk Tryz.prog 19 = TK.other := by kernel_rfl
theorem tb_loadK_19 : loadK Tryz.prog 19 = some (true, 1) := by kernel_rfl
theorem tb_zeroK_19 : zeroK Tryz.prog 19 = some [Value.pointer none] := by kernel_rfl
theorem tb_bytesK_19 : bytesK Tryz.prog 19 = some 8 := by kernel_rfl
theorem tb_sliceElem_19 : sliceElem Tryz.prog 19 = none := by kernel_rfl
theorem tb_arrElem_19 : arrElem Tryz.prog 19 = none := by kernel_rfl
theorem tb_placesK_19 : placesK Tryz.prog 19 = some [(0, 1)] := by kernel_rfl
theorem tb_byteEl_19 : byteEl Tryz.prog 19 = false := by kernel_rfl
theorem tb_fieldK_19_0 : fieldK Tryz.prog 19 0 = some (0, false, 1) := by kernel_rfl
theorem tb_tk_20 : tk Tryz.prog 20 = TK.other := by kernel_rfl
theorem tb_loadK_20 : loadK Tryz.prog 20 = some (false, 1) := by kernel_rfl
theorem tb_zeroK_20 : zeroK Tryz.prog 20 = some [Value.nilIface] := by kernel_rfl
theorem tb_bytesK_20 : bytesK Tryz.prog 20 = some 16 := by kernel_rfl
theorem tb_sliceElem_20 : sliceElem Tryz.prog 20 = none := by kernel_rfl
theorem tb_arrElem_20 : arrElem Tryz.prog 20 = none := by kernel_rfl
theorem tb_byteEl_20 : byteEl Tryz.prog 20 = false := by kernel_rfl
theorem tb_tk_21 : tk Tryz.prog 21 = TK.int IntKind.i32 := by kernel_rfl
theorem tb_loadK_21 : loadK Tryz.prog 21 = some (false, 1) := by kernel_rfl
theorem tb_zeroK_21 : zeroK Tryz.prog 21 = some [Value.int IntKind.i32 0] := by kernel_rfl
theorem tb_bytesK_21 : bytesK Tryz.prog 21 = some 4 := by kernel_rfl
theorem tb_byteEl_21 : byteEl Tryz.prog 21 = false := by kernel_rfl
theorem tb_tk_22 : tk Tryz.prog 22 = TK.slc := by kernel_rfl
theorem tb_loadK_22 : loadK Tryz.prog 22 = some (false, 1) := by kernel_rfl
theorem tb_zeroK_22 : zeroK Tryz.prog 22 = some [Value.slice none 0 0] := by kernel_rfl
theorem tb_bytesK_22 : bytesK Tryz.prog 22 = some 24 := by kernel_rfl
theorem tb_sliceElem_22 : sliceElem Tryz.prog 22 = some (46, 2) := by kernel_rfl
theorem tb_arrElem_22 : arrElem Tryz.prog 22 = none := by kernel_rfl
theorem tb_byteEl_22 : byteEl Tryz.prog 22 = false := by kernel_rfl
theorem tb_tk_23 : tk Tryz.prog 23 = TK.other := by kernel_rfl
theorem tb_loadK_23 : loadK Tryz.prog 23 = some (true, 1) := by kernel_rfl
theorem tb_zeroK_23 : zeroK Tryz.prog 23 = some [Value.slice none 0 0] := by kernel_rfl
theorem tb_bytesK_23 : bytesK Tryz.prog 23 = some 24 := by kernel_rfl
theorem tb_sliceElem_23 : sliceElem Tryz.prog 23 = none := by kernel_rfl
theorem tb_arrElem_23 : arrElem Tryz.prog 23 = none := by kernel_rfl
theorem tb_placesK_23 : placesK Tryz.prog 23 = some [(0, 1)] := by kernel_rfl
theorem tb_byteEl_23 : byteEl Tryz.prog 23 = false := by kernel_rfl
theorem tb_fieldK_23_0 : fieldK Tryz.prog 23 0 = some (0, false, 1) := by kernel_rfl
theorem tb_tk_24 : tk Tryz.prog 24 = TK.other := by kernel_rfl
theorem tb_loadK_24 : loadK Tryz.prog 24 = some (true, 1) := by kernel_rfl
theorem tb_zeroK_24 : zeroK Tryz.prog 24 = some [Value.slice none 0 0] := by kernel_rfl
theorem tb_bytesK_24 : bytesK Tryz.prog 24 = some 24 := by kernel_rfl
theorem tb_sliceElem_24 : sliceElem Tryz.prog 24 = none := by kernel_rfl
theorem tb_arrElem_24 : arrElem Tryz.prog 24 = none := by kernel_rfl
theorem tb_placesK_24 : placesK Tryz.prog 24 = some [(0, 1)] := by kernel_rfl
theorem tb_byteEl_24 : byteEl Tryz.prog 24 = false := by kernel_rfl
theorem tb_fieldK_24_0 : fieldK Tryz.prog 24 0 = some (0, false, 1) := by kernel_rfl
theorem tb_tk_25 : tk Tryz.prog 25 = TK.slc := by kernel_rfl
theorem tb_loadK_25 : loadK Tryz.prog 25 = some (false, 1) := by kernel_rfl
theorem tb_zeroK_25 : zeroK Tryz.prog 25 = some [Value.slice none 0 0] := by kernel_rfl
theorem tb_bytesK_25 : bytesK Tryz.prog 25 = some 24 := by kernel_rfl
theorem tb_sliceElem_25 : sliceElem Tryz.prog 25 = some (101, 3) := by kernel_rfl
theorem tb_arrElem_25 : arrElem Tryz.prog 25 = none := by kernel_rfl
theorem tb_byteEl_25 : byteEl Tryz.prog 25 = false := by kernel_rfl
theorem tb_tk_26 : tk Tryz.prog 26 = TK.slc := by kernel_rfl
theorem tb_loadK_26 : loadK Tryz.prog 26 = some (false, 1) := by kernel_rfl
theorem tb_zeroK_26 : zeroK Tryz.prog 26 = some [Value.slice none 0 0] := by kernel_rfl
theorem tb_bytesK_26 : bytesK Tryz.prog 26 = some 24 := by kernel_rfl
theorem tb_sliceElem_26 : sliceElem Tryz.prog 26 = some (43, 4) := by kernel_rfl
theorem tb_arrElem_26 : arrElem Tryz.prog 26 = none := by kernel_rfl
theorem tb_byteEl_26 : byteEl Tryz.prog 26 = false := by kernel_rfl
theorem tb_tk_27 : tk Tryz.prog 27 = TK.slc := by kernel_rfl
theorem tb_loadK_27 : loadK Tryz.prog 27 = some (false, 1) := by kernel_rfl
theorem tb_zeroK_27 : zeroK Tryz.prog 27 = some [Value.slice none 0 0] := by kernel_rfl
theorem tb_bytesK_27 : bytesK Tryz.prog 27 = some 24 := by kernel_rfl
theorem tb_sliceElem_27 : sliceElem Tryz.prog 27 = some (40, 2) := by kernel_rfl
theorem tb_arrElem_27 : arrElem Tryz.prog 27 = none := by kernel_rfl
theorem tb_byteEl_27 : byteEl Tryz.prog 27 = false := by kernel_rfl
theorem tb_tk_28 : tk Tryz.prog 28 = TK.other := by kernel_rfl
theorem tb_loadK_28 : loadK Tryz.prog 28 = some (true, 4) := by kernel_rfl
theorem tb_zeroK_28 : zeroK Tryz.prog 28 = some [Value.slice none 0 0, Value.slice none 0 0, Value.slice none 0 0, Value.slice none 0 0] := by kernel_rfl
theorem tb_bytesK_28 : bytesK Tryz.prog 28 = some 96 := by kernel_rfl
theorem tb_sliceElem_28 : sliceElem Tryz.prog 28 = none := by kernel_rfl
theorem tb_arrElem_28 : arrElem Tryz.prog 28 = none := by kernel_rfl
theorem tb_placesK_28 : placesK Tryz.prog 28 = some [(0, 1), (1, 1), (2, 1), (3, 1)] := by kernel_rfl
theorem tb_byteEl_28 : byteEl Tryz.prog 28 = false := by kernel_rfl
theorem tb_fieldK_28_0 : fieldK Tryz.prog 28 0 = some (0, true, 1) := by kernel_rfl
theorem tb_fieldK_28_1 : fieldK Tryz.prog 28 1 = some (1, false, 1) := by kernel_rfl
theorem tb_fieldK_28_2 : fieldK Tryz.prog 28 2 = some (2, false, 1) := by kernel_rfl
theorem tb_fieldK_28_3 : fieldK Tryz.prog 28 3 = some (3, false, 1) := by kernel_rfl
theorem tb_tk_29 : tk Tryz.prog 29 = TK.other := by kernel_rfl
theorem tb_loadK_29 : loadK Tryz.prog 29 = some (true, 4) := by kernel_rfl
theorem tb_zeroK_29 : zeroK Tryz.prog 29 = some [Value.slice none 0 0, Value.slice none 0 0, Value.slice none 0 0, Value.slice none 0 0] := by kernel_rfl
theorem tb_bytesK_29 : bytesK Tryz.prog 29 = some 96 := by kernel_rfl
theorem tb_sliceElem_29 : sliceElem Tryz.prog 29 = none := by kernel_rfl
theorem tb_arrElem_29 : arrElem Tryz.prog 29 = none := by kernel_rfl
theorem tb_placesK_29 : placesK Tryz.prog 29 = some [(0, 1), (1, 1), (2, 1), (3, 1)] := by kernel_rfl
theorem tb_byteEl_29 : byteEl Tryz.prog 29 = false := by kernel_rfl
theorem tb_fieldK_29_0 : fieldK Tryz.prog 29 0 = some (0, true, 1) := by kernel_rfl
theorem tb_fieldK_29_1 : fieldK Tryz.prog 29 1 = some (1, false, 1) := by kernel_rfl
theorem tb_fieldK_29_2 : fieldK Tryz.prog 29 2 = some (2, false, 1) := by kernel_rfl
theorem tb_fieldK_29_3 : fieldK Tryz.prog 29 3 = some (3, false, 1) := by kernel_rfl
theorem tb_tk_30 : tk Tryz.prog 30 = TK.other := by kernel_rfl
theorem tb_loadK_30 : loadK Tryz.prog 30 = some (false, 1) := by kernel_rfl
theorem tb_zeroK_30 : zeroK Tryz.prog 30 = some [Value.nilFunc] := by kernel_rfl
theorem tb_bytesK_30 : bytesK Tryz.prog 30 = some 8 := by kernel_rfl
theorem tb_sliceElem_30 : sliceElem Tryz.prog 30 = none := by kernel_rfl
theorem tb_arrElem_30 : arrElem Tryz.prog 30 = none := by kernel_rfl
theorem tb_byteEl_30 : byteEl Tryz.prog 30 = false := by kernel_rfl
theorem tb_tk_31 : tk Tryz.prog 31 = TK.other := by kernel_rfl
theorem tb_loadK_31 : loadK Tryz.prog 31 = some (false, 1) := by kernel_rfl
theorem tb_zeroK_31 : zeroK Tryz.prog 31 = some [Value.nilFunc] := by kernel_rfl
theorem tb_bytesK_31 : bytesK Tryz.prog 31 = some 8 := by kernel_rfl
theorem tb_sliceElem_31 : sliceElem Tryz.prog 31 = none := by kernel_rfl
theorem tb_arrElem_31 : arrElem Tryz.prog 31 = none := by kernel_rfl
theorem tb_byteEl_31 : byteEl Tryz.prog 31 = false := by kernel_rfl
theorem tb_tk_32 : tk Tryz.prog 32 = TK.slc := by kernel_rfl
theorem tb_loadK_32 : loadK Tryz.prog 32 = some (false, 1) := by kernel_rfl
theorem tb_zeroK_32 : zeroK Tryz.prog 32 = some [Value.slice none 0 0] := by kernel_rfl
theorem tb_bytesK_32 : bytesK Tryz.prog 32 = some 24 := by kernel_rfl
theorem tb_sliceElem_32 : sliceElem Tryz.prog 32 = some (3, 1) := by kernel_rfl
theorem tb_arrElem_32 : arrElem Tryz.prog 32 = none := by kernel_rfl
theorem tb_byteEl_32 : byteEl Tryz.prog 32 = false := by kernel_rfl
theorem tb_tk_33 : tk Tryz.prog 33 = TK.int IntKind.i64 := by kernel_rfl
theorem tb_loadK_33 : loadK Tryz.prog 33 = some (false, 1) := by kernel_rfl
theorem tb_zeroK_33 : zeroK Tryz.prog 33 = some [Value.int IntKind.i64 0] := by kernel_rfl
theorem tb_bytesK_33 : bytesK Tryz.prog 33 = some 8 := by kernel_rfl
theorem tb_byteEl_33 : byteEl Tryz.prog 33 = false := by kernel_rfl
theorem tb_tk_34 : tk Tryz.prog 34 = TK.other := by kernel_rfl
theorem tb_loadK_34 : loadK Tryz.prog 34 = some (false, 1) := by kernel_rfl
theorem tb_zeroK_34 : zeroK Tryz.prog 34 = some [Value.tuple { toList := [Value.slice none 0 0, Value.int IntKind.i64 0] }] := by kernel_rfl
theorem tb_bytesK_34 : bytesK Tryz.prog 34 = some 0 := by kernel_rfl
theorem tb_sliceElem_34 : sliceElem Tryz.prog 34 = none := by kernel_rfl
theorem tb_arrElem_34 : arrElem Tryz.prog 34 = none := by kernel_rfl
theorem tb_byteEl_34 : byteEl Tryz.prog 34 = false := by kernel_rfl
theorem tb_tk_35 : tk Tryz.prog 35 = TK.other := by kernel_rfl
theorem tb_loadK_35 : loadK Tryz.prog 35 = some (false, 1) := by kernel_rfl
theorem tb_zeroK_35 : zeroK Tryz.prog 35 = some [Value.nilFunc] := by kernel_rfl
theorem tb_bytesK_35 : bytesK Tryz.prog 35 = some 8 := by kernel_rfl
theorem tb_sliceElem_35 : sliceElem Tryz.prog 35 = none := by kernel_rfl
theorem tb_arrElem_35 : arrElem Tryz.prog 35 = none := by kernel_rfl
theorem tb_byteEl_35 : byteEl Tryz.prog 35 = false := by kernel_rfl
theorem tb_tk_36 : tk Tryz.prog 36 = TK.other := by kernel_rfl
theorem tb_loadK_36 : loadK Tryz.prog 36 = some (false, 1) := by kernel_rfl
theorem tb_zeroK_36 : zeroK Tryz.prog 36 = some [Value.nilFunc] := by kernel_rfl
theorem tb_bytesK_36 : bytesK Tryz.prog 36 = some 8 := by kernel_rfl
theorem tb_sliceElem_36 : sliceElem Tryz.prog 36 = none := by kernel_rfl
theorem tb_arrElem_36 : arrElem Tryz.prog 36 = none := by kernel_rfl
theorem tb_byteEl_36 : byteEl Tryz.prog 36 = false := by kernel_rfl
theorem tb_tk_37 : tk Tryz.prog 37 = TK.slc := by kernel_rfl
theorem tb_loadK_37 : loadK Tryz.prog 37 = some (false, 1) := by kernel_rfl
theorem tb_zeroK_37 : zeroK Tryz.prog 37 = some [Value.slice none 0 0] := by kernel_rfl
theorem tb_bytesK_37 : bytesK Tryz.prog 37 = some 24 := by kernel_rfl
theorem tb_sliceElem_37 : sliceElem Tryz.prog 37 = some (44, 1) := by kernel_rfl
theorem tb_arrElem_37 : arrElem Tryz.prog 37 = none := by kernel_rfl
theorem tb_byteEl_37 : byteEl Tryz.prog 37 = false := by kernel_rfl
theorem tb_tk_38 : tk Tryz.prog 38 = TK.other := by kernel_rfl
theorem tb_loadK_38 : loadK Tryz.prog 38 = some (false, 1) := by kernel_rfl
theorem tb_zeroK_38 : zeroK Tryz.prog 38 = some [Value.nilFunc] := by kernel_rfl
theorem tb_bytesK_38 : bytesK Tryz.prog 38 = some 8 := by kernel_rfl
theorem tb_sliceElem_38 : sliceElem Tryz.prog 38 = none := by kernel_rfl
theorem tb_arrElem_38 : arrElem Tryz.prog 38 = none := by kernel_rfl
theorem tb_byteEl_38 : byteEl Tryz.prog 38 = false := by kernel_rfl
theorem tb_tk_39 : tk Tryz.prog 39 = TK.other := by kernel_rfl
theorem tb_loadK_39 : loadK Tryz.prog 39 = some (true, 2) := by kernel_rfl
theorem tb_zeroK_39 : zeroK Tryz.prog 39 = some [Value.bool false, Value.slice none 0 0] := by kernel_rfl
theorem tb_bytesK_39 : bytesK Tryz.prog 39 = some 32 := by kernel_rfl
theorem tb_sliceElem_39 : sliceElem Tryz.prog 39 = none := by kernel_rfl
theorem tb_arrElem_39 : arrElem Tryz.prog 39 = none := by kernel_rfl
theorem tb_placesK_39 : placesK Tryz.prog 39 = some [(0, 1), (1, 1)] := by kernel_rfl
theorem tb_byteEl_39 : byteEl Tryz.prog 39 = false := by kernel_rfl
theorem tb_fieldK_39_0 : fieldK Tryz.prog 39 0 = some (0, false, 1) := by kernel_rfl
theorem tb_fieldK_39_1 : fieldK Tryz.prog 39 1 = some (1, false, 1) := by kernel_rfl
theorem tb_tk_40 : tk Tryz.prog 40 = TK.other := by kernel_rfl
theorem tb_loadK_40 : loadK Tryz.prog 40 = some (true, 2) := by kernel_rfl
theorem tb_zeroK_40 : zeroK Tryz.prog 40 = some [Value.bool false, Value.slice none 0 0] := by kernel_rfl
theorem tb_bytesK_40 : bytesK Tryz.prog 40 = some 32 := by kernel_rfl
theorem tb_sliceElem_40 : sliceElem Tryz.prog 40 = none := by kernel_rfl
theorem tb_arrElem_40 : arrElem Tryz.prog 40 = none := by kernel_rfl
theorem tb_placesK_40 : placesK Tryz.prog 40 = some [(0, 1), (1, 1)] := by kernel_rfl
theorem tb_byteEl_40 : byteEl Tryz.prog 40 = false := by kernel_rfl
theorem tb_fieldK_40_0 : fieldK Tryz.prog 40 0 = some (0, false, 1) := by kernel_rfl
theorem tb_fieldK_40_1 : fieldK Tryz.prog 40 1 = some (1, false, 1) := by kernel_rfl
theorem tb_tk_42 : tk Tryz.prog 42 = TK.other := by kernel_rfl
theorem tb_loadK_42 : loadK Tryz.prog 42 = some (true, 4) := by kernel_rfl
theorem tb_zeroK_42 : zeroK Tryz.prog 42 = some [Value.int IntKind.i64 0, Value.int IntKind.i64 0, Value.int IntKind.i64 0, Value.int IntKind.i64 0] := by kernel_rfl
theorem tb_bytesK_42 : bytesK Tryz.prog 42 = some 32 := by kernel_rfl
theorem tb_sliceElem_42 : sliceElem Tryz.prog 42 = none := by kernel_rfl
theorem tb_arrElem_42 : arrElem Tryz.prog 42 = none := by kernel_rfl
theorem tb_placesK_42 : placesK Tryz.prog 42 = some [(0, 1), (1, 1), (2, 1), (3, 1)] := by kernel_rfl
theorem tb_byteEl_42 : byteEl Tryz.prog 42 = false := by kernel_rfl
theorem tb_flatK_42 : flatK Tryz.prog 42 = some [TypeDesc.int IntKind.i64, TypeDesc.int IntKind.i64, TypeDesc.int IntKind.i64, TypeDesc.int IntKind.i64] := by kernel_rfl
theorem tb_fieldK_42_0 : fieldK Tryz.prog 42 0 = some (0, false, 1) := by kernel_rfl
theorem tb_fieldK_42_1 : fieldK Tryz.prog 42 1 = some (1, false, 1) := by kernel_rfl
theorem tb_fieldK_42_2 : fieldK Tryz.prog 42 2 = some (2, false, 1) := by kernel_rfl
theorem tb_fieldK_42_3 : fieldK Tryz.prog 42 3 = some (3, false, 1) := by kernel_rfl
theorem tb_tk_43 : tk Tryz.prog 43 = TK.other := by kernel_rfl
theorem tb_loadK_43 : loadK Tryz.prog 43 = some (true, 4) := by kernel_rfl
theorem tb_zeroK_43 : zeroK Tryz.prog 43 = some [Value.int IntKind.i64 0, Value.int IntKind.i64 0, Value.int IntKind.i64 0, Value.int IntKind.i64 0] := by kernel_rfl
theorem tb_bytesK_43 : bytesK Tryz.prog 43 = some 32 := by kernel_rfl
theorem tb_sliceElem_43 : sliceElem Tryz.prog 43 = none := by kernel_rfl
theorem tb_arrElem_43 : arrElem Tryz.prog 43 = none := by kernel_rfl
theorem tb_placesK_43 : placesK Tryz.prog 43 = some [(0, 1), (1, 1), (2, 1), (3, 1)] := by kernel_rfl
theorem tb_byteEl_43 : byteEl Tryz.prog 43 = false := by kernel_rfl
theorem tb_flatK_43 : flatK Tryz.prog 43 = some [TypeDesc.int IntKind.i64, TypeDesc.int IntKind.i64, TypeDesc.int IntKind.i64, TypeDesc.int IntKind.i64] := by kernel_rfl
theorem tb_fieldK_43_0 : fieldK Tryz.prog 43 0 = some (0, false, 1) := by kernel_rfl
theorem tb_fieldK_43_1 : fieldK Tryz.prog 43 1 = some (1, false, 1) := by kernel_rfl
theorem tb_fieldK_43_2 : fieldK Tryz.prog 43 2 = some (2, false, 1) := by kernel_rfl
theorem tb_fieldK_43_3 : fieldK Tryz.prog 43 3 = some (3, false, 1) := by kernel_rfl
theorem tb_tk_44 : tk Tryz.prog 44 = TK.slc := by kernel_rfl
theorem tb_loadK_44 : loadK Tryz.prog 44 = some (false, 1) := by kernel_rfl
theorem tb_zeroK_44 : zeroK Tryz.prog 44 = some [Value.slice none 0 0] := by kernel_rfl
theorem tb_bytesK_44 : bytesK Tryz.prog 44 = some 24 := by kernel_rfl
theorem tb_sliceElem_44 : sliceElem Tryz.prog 44 = some (9, 1) := by kernel_rfl
theorem tb_arrElem_44 : arrElem Tryz.prog 44 = none := by kernel_rfl
theorem tb_byteEl_44 : byteEl Tryz.prog 44 = false := by kernel_rfl
theorem tb_tk_46 : tk Tryz.prog 46 = TK.other := by kernel_rfl
theorem tb_loadK_46 : loadK Tryz.prog 46 = some (true, 2) := by kernel_rfl
theorem tb_zeroK_46 : zeroK Tryz.prog 46 = some [Value.int IntKind.i64 0, Value.slice none 0 0] := by kernel_rfl
theorem tb_bytesK_46 : bytesK Tryz.prog 46 = some 32 := by kernel_rfl
theorem tb_sliceElem_46 : sliceElem Tryz.prog 46 = none := by kernel_rfl
theorem tb_arrElem_46 : arrElem Tryz.prog 46 = none := by kernel_rfl
theorem tb_placesK_46 : placesK Tryz.prog 46 = some [(0, 1), (1, 1)] := by kernel_rfl
theorem tb_byteEl_46 : byteEl Tryz.prog 46 = false := by kernel_rfl
theorem tb_fieldK_46_0 : fieldK Tryz.prog 46 0 = some (0, false, 1) := by kernel_rfl
theorem tb_fieldK_46_1 : fieldK Tryz.prog 46 1 = some (1, false, 1) := by kernel_rfl
theorem tb_tk_48 : tk Tryz.prog 48 = TK.other := by kernel_rfl
theorem tb_loadK_48 : loadK Tryz.prog 48 = some (false, 1) := by kernel_rfl
theorem tb_zeroK_48 : zeroK Tryz.prog 48 = some [Value.nilFunc] := by kernel_rfl
theorem tb_bytesK_48 : bytesK Tryz.prog 48 = some 8 := by kernel_rfl
theorem tb_sliceElem_48 : sliceElem Tryz.prog 48 = none := by kernel_rfl
theorem tb_arrElem_48 : arrElem Tryz.prog 48 = none := by kernel_rfl
theorem tb_byteEl_48 : byteEl Tryz.prog 48 = false := by kernel_rfl
theorem tb_tk_49 : tk Tryz.prog 49 = TK.slc := by kernel_rfl
theorem tb_loadK_49 : loadK Tryz.prog 49 = some (false, 1) := by kernel_rfl
theorem tb_zeroK_49 : zeroK Tryz.prog 49 = some [Value.slice none 0 0] := by kernel_rfl
theorem tb_bytesK_49 : bytesK Tryz.prog 49 = some 24 := by kernel_rfl
theorem tb_sliceElem_49 : sliceElem Tryz.prog 49 = some (78, 3) := by kernel_rfl
theorem tb_arrElem_49 : arrElem Tryz.prog 49 = none := by kernel_rfl
theorem tb_byteEl_49 : byteEl Tryz.prog 49 = false := by kernel_rfl
theorem tb_tk_50 : tk Tryz.prog 50 = TK.other := by kernel_rfl
theorem tb_loadK_50 : loadK Tryz.prog 50 = some (false, 1) := by kernel_rfl
theorem tb_zeroK_50 : zeroK Tryz.prog 50 = some [Value.tuple { toList := [Value.slice none 0 0, Value.int IntKind.i64 0] }] := by kernel_rfl
theorem tb_bytesK_50 : bytesK Tryz.prog 50 = some 0 := by kernel_rfl
theorem tb_sliceElem_50 : sliceElem Tryz.prog 50 = none := by kernel_rfl
theorem tb_arrElem_50 : arrElem Tryz.prog 50 = none := by kernel_rfl
theorem tb_byteEl_50 : byteEl Tryz.prog 50 = false := by kernel_rfl
theorem tb_tk_51 : tk Tryz.prog 51 = TK.other := by kernel_rfl
theorem tb_loadK_51 : loadK Tryz.prog 51 = some (false, 1) := by kernel_rfl
theorem tb_zeroK_51 : zeroK Tryz.prog 51 = some [Value.nilFunc] := by kernel_rfl
theorem tb_bytesK_51 : bytesK Tryz.prog 51 = some 8 := by kernel_rfl
theorem tb_sliceElem_51 : sliceElem Tryz.prog 51 = none := by kernel_rfl
theorem tb_arrElem_51 : arrElem Tryz.prog 51 = none := by kernel_rfl
theorem tb_byteEl_51 : byteEl Tryz.prog 51 = false := by kernel_rfl
theorem tb_tk_52 : tk Tryz.prog 52 = TK.other := by kernel_rfl
theorem tb_loadK_52 : loadK Tryz.prog 52 = some (false, 1) := by kernel_rfl
theorem tb_zeroK_52 : zeroK Tryz.prog 52 = some [Value.nilFunc] := by kernel_rfl
theorem tb_bytesK_52 : bytesK Tryz.prog 52 = some 8 := by kernel_rfl
theorem tb_sliceElem_52 : sliceElem Tryz.prog 52 = none := by kernel_rfl
theorem tb_arrElem_52 : arrElem Tryz.prog 52 = none := by kernel_rfl
theorem tb_byteEl_52 : byteEl Tryz.prog 52 = false := by kernel_rfl
theorem tb_tk_53 : tk Tryz.prog 53 = TK.other := by kernel_rfl
theorem tb_loadK_53 : loadK Tryz.prog 53 = some (false, 1) := by kernel_rfl
theorem tb_zeroK_53 : zeroK Tryz.prog 53 = some [Value.nilFunc] := by kernel_rfl
theorem tb_bytesK_53 : bytesK Tryz.prog 53 = some 8 := by kernel_rfl
theorem tb_sliceElem_53 : sliceElem Tryz.prog 53 = none := by kernel_rfl
theorem tb_arrElem_53 : arrElem Tryz.prog 53 = none := by kernel_rfl
theorem tb_byteEl_53 : byteEl Tryz.prog 53 = false := by kernel_rfl
theorem tb_tk_54 : tk Tryz.prog 54 = TK.other := by kernel_rfl
theorem tb_loadK_54 : loadK Tryz.prog 54 = some (false, 1) := by kernel_rfl
theorem tb_zeroK_54 : zeroK Tryz.prog 54 = some [Value.tuple { toList := [Value.slice none 0 0, Value.int IntKind.i64 0] }] := by kernel_rfl
theorem tb_bytesK_54 : bytesK Tryz.prog 54 = some 0 := by kernel_rfl
theorem tb_sliceElem_54 : sliceElem Tryz.prog 54 = none := by kernel_rfl
theorem tb_arrElem_54 : arrElem Tryz.prog 54 = none := by kernel_rfl
theorem tb_byteEl_54 : byteEl Tryz.prog 54 = false := by kernel_rfl
theorem tb_tk_57 : tk Tryz.prog 57 = TK.other := by kernel_rfl
theorem tb_loadK_57 : loadK Tryz.prog 57 = some (false, 1) := by kernel_rfl
theorem tb_zeroK_57 : zeroK Tryz.prog 57 = some [Value.tuple { toList := [Value.int IntKind.i64 0, Value.int IntKind.i64 0] }] := by kernel_rfl
theorem tb_bytesK_57 : bytesK Tryz.prog 57 = some 0 := by kernel_rfl
theorem tb_sliceElem_57 : sliceElem Tryz.prog 57 = none := by kernel_rfl
theorem tb_arrElem_57 : arrElem Tryz.prog 57 = none := by kernel_rfl
theorem tb_byteEl_57 : byteEl Tryz.prog 57 = false := by kernel_rfl
theorem tb_tk_59 : tk Tryz.prog 59 = TK.slc := by kernel_rfl
theorem tb_loadK_59 : loadK Tryz.prog 59 = some (false, 1) := by kernel_rfl
theorem tb_zeroK_59 : zeroK Tryz.prog 59 = some [Value.slice none 0 0] := by kernel_rfl
theorem tb_bytesK_59 : bytesK Tryz.prog 59 = some 24 := by kernel_rfl
theorem tb_sliceElem_59 : sliceElem Tryz.prog 59 = some (75, 2) := by kernel_rfl
theorem tb_arrElem_59 : arrElem Tryz.prog 59 = none := by kernel_rfl
theorem tb_byteEl_59 : byteEl Tryz.prog 59 = false := by kernel_rfl
theorem tb_tk_60 : tk Tryz.prog 60 = TK.other := by kernel_rfl
theorem tb_loadK_60 : loadK Tryz.prog 60 = some (false, 1) := by kernel_rfl
theorem tb_zeroK_60 : zeroK Tryz.prog 60 = some [Value.tuple { toList := [Value.slice none 0 0, Value.int IntKind.i64 0] }] := by kernel_rfl
theorem tb_bytesK_60 : bytesK Tryz.prog 60 = some 0 := by kernel_rfl
theorem tb_sliceElem_60 : sliceElem Tryz.prog 60 = none := by kernel_rfl
theorem tb_arrElem_60 : arrElem Tryz.prog 60 = none := by kernel_rfl
theorem tb_byteEl_60 : byteEl Tryz.prog 60 = false := by kernel_rfl
theorem tb_tk_61 : tk Tryz.prog 61 = TK.other := by kernel_rfl
theorem tb_loadK_61 : loadK Tryz.prog 61 = some (false, 1) := by kernel_rfl
theorem tb_zeroK_61 : zeroK Tryz.prog 61 = some [Value.nilFunc] := by kernel_rfl
theorem tb_bytesK_61 : bytesK Tryz.prog 61 = some 8 := by kernel_rfl
theorem tb_sliceElem_61 : sliceElem Tryz.prog 61 = none := by kernel_rfl
theorem tb_arrElem_61 : arrElem Tryz.prog 61 = none := by kernel_rfl
theorem tb_byteEl_61 : byteEl Tryz.prog 61 = false := by kernel_rfl
theorem tb_tk_62 : tk Tryz.prog 62 = TK.other := by kernel_rfl
theorem tb_loadK_62 : loadK Tryz.prog 62 = some (false, 1) := by kernel_rfl
theorem tb_zeroK_62 : zeroK Tryz.prog 62 = some [Value.tuple { toList := [Value.slice none 0 0, Value.slice none 0 0, Value.int IntKind.i64 0] }] := by kernel_rfl
theorem tb_bytesK_62 : bytesK Tryz.prog 62 = some 0 := by kernel_rfl
theorem tb_sliceElem_62 : sliceElem Tryz.prog 62 = none := by kernel_rfl
theorem tb_arrElem_62 : arrElem Tryz.prog 62 = none := by kernel_rfl
theorem tb_byteEl_62 : byteEl Tryz.prog 62 = false := by kernel_rfl
theorem tb_tk_63 : tk Tryz.prog 63 = TK.other := by kernel_rfl
theorem tb_loadK_63 : loadK Tryz.prog 63 = some (false, 1) := by kernel_rfl
theorem tb_zeroK_63 : zeroK Tryz.prog 63 = some [Value.nilFunc] := by kernel_rfl
theorem tb_bytesK_63 : bytesK Tryz.prog 63 = some 8 := by kernel_rfl
theorem tb_sliceElem_63 : sliceElem Tryz.prog 63 = none := by kernel_rfl
theorem tb_arrElem_63 : arrElem Tryz.prog 63 = none := by kernel_rfl
theorem tb_byteEl_63 : byteEl Tryz.prog 63 = false := by kernel_rfl
theorem tb_tk_64 : tk Tryz.prog 64 = TK.slc := by kernel_rfl
theorem tb_loadK_64 : loadK Tryz.prog 64 = some (false, 1) := by kernel_rfl
theorem tb_zeroK_64 : zeroK Tryz.prog 64 = some [Value.slice none 0 0] := by kernel_rfl
theorem tb_bytesK_64 : bytesK Tryz.prog 64 = some 24 := by kernel_rfl
theorem tb_sliceElem_64 : sliceElem Tryz.prog 64 = some (110, 6) := by kernel_rfl
theorem tb_arrElem_64 : arrElem Tryz.prog 64 = none := by kernel_rfl
theorem tb_byteEl_64 : byteEl Tryz.prog 64 = false := by kernel_rfl
theorem tb_tk_65 : tk Tryz.prog 65 = TK.other := by kernel_rfl
theorem tb_loadK_65 : loadK Tryz.prog 65 = some (false, 1) := by kernel_rfl
theorem tb_zeroK_65 : zeroK Tryz.prog 65 = some [Value.tuple { toList := [Value.slice none 0 0, Value.int IntKind.i64 0] }] := by kernel_rfl
theorem tb_bytesK_65 : bytesK Tryz.prog 65 = some 0 := by kernel_rfl
theorem tb_sliceElem_65 : sliceElem Tryz.prog 65 = none := by kernel_rfl
theorem tb_arrElem_65 : arrElem Tryz.prog 65 = none := by kernel_rfl
theorem tb_byteEl_65 : byteEl Tryz.prog 65 = false := by kernel_rfl
theorem tb_tk_66 : tk Tryz.prog 66 = TK.other := by kernel_rfl
theorem tb_loadK_66 : loadK Tryz.prog 66 = some (false, 1) := by kernel_rfl
theorem tb_zeroK_66 : zeroK Tryz.prog 66 = some [Value.nilFunc] := by kernel_rfl
theorem tb_bytesK_66 : bytesK Tryz.prog 66 = some 8 := by kernel_rfl
theorem tb_sliceElem_66 : sliceElem Tryz.prog 66 = none := by kernel_rfl
theorem tb_arrElem_66 : arrElem Tryz.prog 66 = none := by kernel_rfl
theorem tb_byteEl_66 : byteEl Tryz.prog 66 = false := by kernel_rfl
theorem tb_tk_67 : tk Tryz.prog 67 = TK.other := by kernel_rfl
theorem tb_loadK_67 : loadK Tryz.prog 67 = some (true, 2) := by kernel_rfl
theorem tb_zeroK_67 : zeroK Tryz.prog 67 = some [Value.int IntKind.i64 0, Value.int IntKind.u8 0] := by kernel_rfl
theorem tb_bytesK_67 : bytesK Tryz.prog 67 = some 16 := by kernel_rfl
theorem tb_sliceElem_67 : sliceElem Tryz.prog 67 = none := by kernel_rfl
theorem tb_arrElem_67 : arrElem Tryz.prog 67 = none := by kernel_rfl
theorem tb_placesK_67 : placesK Tryz.prog 67 = some [(0, 1), (1, 1)] := by kernel_rfl
theorem tb_byteEl_67 : byteEl Tryz.prog 67 = false := by kernel_rfl
theorem tb_flatK_67 : flatK Tryz.prog 67 = some [TypeDesc.int IntKind.i64, TypeDesc.int IntKind.u8] := by kernel_rfl
theorem tb_fieldK_67_0 : fieldK Tryz.prog 67 0 = some (0, false, 1) := by kernel_rfl
theorem tb_fieldK_67_1 : fieldK Tryz.prog 67 1 = some (1, false, 1) := by kernel_rfl
theorem tb_tk_68 : tk Tryz.prog 68 = TK.other := by kernel_rfl
theorem tb_loadK_68 : loadK Tryz.prog 68 = some (true, 2) := by kernel_rfl
theorem tb_zeroK_68 : zeroK Tryz.prog 68 = some [Value.int IntKind.i64 0, Value.int IntKind.u8 0] := by kernel_rfl
theorem tb_bytesK_68 : bytesK Tryz.prog 68 = some 16 := by kernel_rfl
theorem tb_sliceElem_68 : sliceElem Tryz.prog 68 = none := by kernel_rfl
theorem tb_arrElem_68 : arrElem Tryz.prog 68 = none := by kernel_rfl
theorem tb_placesK_68 : placesK Tryz.prog 68 = some [(0, 1), (1, 1)] := by kernel_rfl
theorem tb_byteEl_68 : byteEl Tryz.prog 68 = false := by kernel_rfl
theorem tb_flatK_68 : flatK Tryz.prog 68 = some [TypeDesc.int IntKind.i64, TypeDesc.int IntKind.u8] := by kernel_rfl
theorem tb_fieldK_68_0 : fieldK Tryz.prog 68 0 = some (0, false, 1) := by kernel_rfl
theorem tb_fieldK_68_1 : fieldK Tryz.prog 68 1 = some (1, false, 1) := by kernel_rfl
theorem tb_tk_69 : tk Tryz.prog 69 = TK.other := by kernel_rfl
theorem tb_loadK_69 : loadK Tryz.prog 69 = some (false, 1) := by kernel_rfl
theorem tb_zeroK_69 : zeroK Tryz.prog 69 = some [Value.tuple { toList := [Value.slice none 0 0, Value.int IntKind.i64 0, Value.int IntKind.i64 0] }] := by kernel_rfl
theorem tb_bytesK_69 : bytesK Tryz.prog 69 = some 0 := by kernel_rfl
theorem tb_sliceElem_69 : sliceElem Tryz.prog 69 = none := by kernel_rfl
theorem tb_arrElem_69 : arrElem Tryz.prog 69 = none := by kernel_rfl
theorem tb_byteEl_69 : byteEl Tryz.prog 69 = false := by kernel_rfl
theorem tb_tk_71 : tk Tryz.prog 71 = TK.other := by kernel_rfl
theorem tb_loadK_71 : loadK Tryz.prog 71 = some (false, 1) := by kernel_rfl
theorem tb_zeroK_71 : zeroK Tryz.prog 71 = some [Value.nilFunc] := by kernel_rfl
theorem tb_bytesK_71 : bytesK Tryz.prog 71 = some 8 := by kernel_rfl
theorem tb_sliceElem_71 : sliceElem Tryz.prog 71 = none := by kernel_rfl
theorem tb_arrElem_71 : arrElem Tryz.prog 71 = none := by kernel_rfl
theorem tb_byteEl_71 : byteEl Tryz.prog 71 = false := by kernel_rfl
theorem tb_tk_73 : tk Tryz.prog 73 = TK.other := by kernel_rfl
theorem tb_loadK_73 : loadK Tryz.prog 73 = some (false, 1) := by kernel_rfl
theorem tb_zeroK_73 : zeroK Tryz.prog 73 = some [Value.nilFunc] := by kernel_rfl
theorem tb_bytesK_73 : bytesK Tryz.prog 73 = some 8 := by kernel_rfl
theorem tb_sliceElem_73 : sliceElem Tryz.prog 73 = none := by kernel_rfl
theorem tb_arrElem_73 : arrElem Tryz.prog 73 = none := by kernel_rfl
theorem tb_byteEl_73 : byteEl Tryz.prog 73 = false := by kernel_rfl
theorem tb_tk_75 : tk Tryz.prog 75 = TK.other := by kernel_rfl
theorem tb_loadK_75 : loadK Tryz.prog 75 = some (true, 2) := by kernel_rfl
theorem tb_zeroK_75 : zeroK Tryz.prog 75 = some [Value.int IntKind.i64 0, Value.int IntKind.i64 0] := by kernel_rfl
theorem tb_bytesK_75 : bytesK Tryz.prog 75 = some 16 := by kernel_rfl
theorem tb_sliceElem_75 : sliceElem Tryz.prog 75 = none := by kernel_rfl
theorem tb_arrElem_75 : arrElem Tryz.prog 75 = some (2, 1) := by kernel_rfl
theorem tb_placesK_75 : placesK Tryz.prog 75 = some [(0, 1), (1, 1), (2, 1), (3, 1), (4, 1), (5, 1), (6, 1), (7, 1)] := by kernel_rfl
theorem tb_byteEl_75 : byteEl Tryz.prog 75 = false := by kernel_rfl
theorem tb_flatK_75 : flatK Tryz.prog 75 = some [TypeDesc.int IntKind.i64, TypeDesc.int IntKind.i64] := by kernel_rfl
theorem tb_arrLoad_75 : arrLoad Tryz.prog 75 = some (2, false, 1) := by kernel_rfl
theorem tb_tk_76 : tk Tryz.prog 76 = TK.other := by kernel_rfl
theorem tb_loadK_76 : loadK Tryz.prog 76 = some (false, 1) := by kernel_rfl
theorem tb_zeroK_76 : zeroK Tryz.prog 76 = some [Value.nilFunc] := by kernel_rfl
theorem tb_bytesK_76 : bytesK Tryz.prog 76 = some 8 := by kernel_rfl
theorem tb_sliceElem_76 : sliceElem Tryz.prog 76 = none := by kernel_rfl
theorem tb_arrElem_76 : arrElem Tryz.prog 76 = none := by kernel_rfl
theorem tb_byteEl_76 : byteEl Tryz.prog 76 = false := by kernel_rfl
theorem tb_tk_77 : tk Tryz.prog 77 = TK.other := by kernel_rfl
theorem tb_loadK_77 : loadK Tryz.prog 77 = some (true, 3) := by kernel_rfl
theorem tb_zeroK_77 : zeroK Tryz.prog 77 = some [Value.int IntKind.u8 0, Value.int IntKind.i64 0, Value.int IntKind.i64 0] := by kernel_rfl
theorem tb_bytesK_77 : bytesK Tryz.prog 77 = some 24 := by kernel_rfl
theorem tb_sliceElem_77 : sliceElem Tryz.prog 77 = none := by kernel_rfl
theorem tb_arrElem_77 : arrElem Tryz.prog 77 = none := by kernel_rfl
theorem tb_placesK_77 : placesK Tryz.prog 77 = some [(0, 1), (1, 1), (2, 1)] := by kernel_rfl
theorem tb_byteEl_77 : byteEl Tryz.prog 77 = false := by kernel_rfl
theorem tb_flatK_77 : flatK Tryz.prog 77 = some [TypeDesc.int IntKind.u8, TypeDesc.int IntKind.i64, TypeDesc.int IntKind.i64] := by kernel_rfl
theorem tb_fieldK_77_0 : fieldK Tryz.prog 77 0 = some (0, false, 1) := by kernel_rfl
theorem tb_fieldK_77_1 : fieldK Tryz.prog 77 1 = some (1, false, 1) := by kernel_rfl
theorem tb_fieldK_77_2 : fieldK Tryz.prog 77 2 = some (2, false, 1) := by kernel_rfl
theorem tb_tk_78 : tk Tryz.prog 78 = TK.other := by kernel_rfl
theorem tb_loadK_78 : loadK Tryz.prog 78 = some (true, 3) := by kernel_rfl
theorem tb_zeroK_78 : zeroK Tryz.prog 78 = some [Value.int IntKind.u8 0, Value.int IntKind.i64 0, Value.int IntKind.i64 0] := by kernel_rfl
theorem tb_bytesK_78 : bytesK Tryz.prog 78 = some 24 := by kernel_rfl
theorem tb_sliceElem_78 : sliceElem Tryz.prog 78 = none := by kernel_rfl
theorem tb_arrElem_78 : arrElem Tryz.prog 78 = none := by kernel_rfl
theorem tb_placesK_78 : placesK Tryz.prog 78 = some [(0, 1), (1, 1), (2, 1)] := by kernel_rfl
theorem tb_byteEl_78 : byteEl Tryz.prog 78 = false := by kernel_rfl
theorem tb_flatK_78 : flatK Tryz.prog 78 = some [TypeDesc.int IntKind.u8, TypeDesc.int IntKind.i64, TypeDesc.int IntKind.i64] := by kernel_rfl
theorem tb_fieldK_78_0 : fieldK Tryz.prog 78 0 = some (0, false, 1) := by kernel_rfl
theorem tb_fieldK_78_1 : fieldK Tryz.prog 78 1 = some (1, false, 1) := by kernel_rfl
theorem tb_fieldK_78_2 : fieldK Tryz.prog 78 2 = some (2, false, 1) := by kernel_rfl
theorem tb_tk_79 : tk Tryz.prog 79 = TK.other := by kernel_rfl
theorem tb_loadK_79 : loadK Tryz.prog 79 = some (false, 1) := by kernel_rfl
theorem tb_zeroK_79 : zeroK Tryz.prog 79 = some [Value.nilFunc] := by kernel_rfl
theorem tb_bytesK_79 : bytesK Tryz.prog 79 = some 8 := by kernel_rfl
theorem tb_sliceElem_79 : sliceElem Tryz.prog 79 = none := by kernel_rfl
theorem tb_arrElem_79 : arrElem Tryz.prog 79 = none := by kernel_rfl
theorem tb_byteEl_79 : byteEl Tryz.prog 79 = false := by kernel_rfl
theorem tb_tk_80 : tk Tryz.prog 80 = TK.ptr := by kernel_rfl
theorem tb_loadK_80 : loadK Tryz.prog 80 = some (false, 1) := by kernel_rfl
theorem tb_zeroK_80 : zeroK Tryz.prog 80 = some [Value.pointer none] := by kernel_rfl
theorem tb_bytesK_80 : bytesK Tryz.prog 80 = some 8 := by kernel_rfl
theorem tb_sliceElem_80 : sliceElem Tryz.prog 80 = none := by kernel_rfl
theorem tb_arrElem_80 : arrElem Tryz.prog 80 = none := by kernel_rfl
theorem tb_byteEl_80 : byteEl Tryz.prog 80 = false := by kernel_rfl
theorem tb_tk_81 : tk Tryz.prog 81 = TK.other := by kernel_rfl
theorem tb_loadK_81 : loadK Tryz.prog 81 = some (false, 1) := by kernel_rfl
theorem tb_zeroK_81 : zeroK Tryz.prog 81 = some [Value.tuple { toList := [Value.pointer none, Value.int IntKind.i64 0] }] := by kernel_rfl
theorem tb_bytesK_81 : bytesK Tryz.prog 81 = some 0 := by kernel_rfl
theorem tb_sliceElem_81 : sliceElem Tryz.prog 81 = none := by kernel_rfl
theorem tb_arrElem_81 : arrElem Tryz.prog 81 = none := by kernel_rfl
theorem tb_byteEl_81 : byteEl Tryz.prog 81 = false := by kernel_rfl
theorem tb_tk_83 : tk Tryz.prog 83 = TK.other := by kernel_rfl
theorem tb_loadK_83 : loadK Tryz.prog 83 = some (false, 1) := by kernel_rfl
theorem tb_zeroK_83 : zeroK Tryz.prog 83 = some [Value.nilFunc] := by kernel_rfl
theorem tb_bytesK_83 : bytesK Tryz.prog 83 = some 8 := by kernel_rfl
theorem tb_sliceElem_83 : sliceElem Tryz.prog 83 = none := by kernel_rfl
theorem tb_arrElem_83 : arrElem Tryz.prog 83 = none := by kernel_rfl
theorem tb_byteEl_83 : byteEl Tryz.prog 83 = false := by kernel_rfl
theorem tb_tk_86 : tk Tryz.prog 86 = TK.other := by kernel_rfl
theorem tb_loadK_86 : loadK Tryz.prog 86 = some (false, 1) := by kernel_rfl
theorem tb_zeroK_86 : zeroK Tryz.prog 86 = some [Value.nilFunc] := by kernel_rfl
theorem tb_bytesK_86 : bytesK Tryz.prog 86 = some 8 := by kernel_rfl
theorem tb_sliceElem_86 : sliceElem Tryz.prog 86 = none := by kernel_rfl
theorem tb_arrElem_86 : arrElem Tryz.prog 86 = none := by kernel_rfl
theorem tb_byteEl_86 : byteEl Tryz.prog 86 = false := by kernel_rfl
theorem tb_tk_87 : tk Tryz.prog 87 = TK.mp := by kernel_rfl
theorem tb_loadK_87 : loadK Tryz.prog 87 = some (false, 1) := by kernel_rfl
theorem tb_zeroK_87 : zeroK Tryz.prog 87 = some [Value.map none] := by kernel_rfl
theorem tb_bytesK_87 : bytesK Tryz.prog 87 = some 8 := by kernel_rfl
theorem tb_byteEl_87 : byteEl Tryz.prog 87 = false := by kernel_rfl
theorem tb_mapK_87 : mapK Tryz.prog 87 = some (KD.int IntKind.i64, V.v (Value.bool false)) := by kernel_rfl
theorem tb_tk_88 : tk Tryz.prog 88 = TK.other := by kernel_rfl
theorem tb_loadK_88 : loadK Tryz.prog 88 = some (false, 1) := by kernel_rfl
theorem tb_zeroK_88 : zeroK Tryz.prog 88 = some [Value.nilFunc] := by kernel_rfl
theorem tb_bytesK_88 : bytesK Tryz.prog 88 = some 8 := by kernel_rfl
theorem tb_sliceElem_88 : sliceElem Tryz.prog 88 = none := by kernel_rfl
theorem tb_arrElem_88 : arrElem Tryz.prog 88 = none := by kernel_rfl
theorem tb_byteEl_88 : byteEl Tryz.prog 88 = false := by kernel_rfl
theorem tb_tk_89 : tk Tryz.prog 89 = TK.other := by kernel_rfl
theorem tb_loadK_89 : loadK Tryz.prog 89 = some (false, 1) := by kernel_rfl
theorem tb_zeroK_89 : zeroK Tryz.prog 89 = some [Value.nilFunc] := by kernel_rfl
theorem tb_bytesK_89 : bytesK Tryz.prog 89 = some 8 := by kernel_rfl
theorem tb_sliceElem_89 : sliceElem Tryz.prog 89 = none := by kernel_rfl
theorem tb_arrElem_89 : arrElem Tryz.prog 89 = none := by kernel_rfl
theorem tb_byteEl_89 : byteEl Tryz.prog 89 = false := by kernel_rfl
theorem tb_tk_90 : tk Tryz.prog 90 = TK.other := by kernel_rfl
theorem tb_loadK_90 : loadK Tryz.prog 90 = some (false, 1) := by kernel_rfl
theorem tb_zeroK_90 : zeroK Tryz.prog 90 = some [Value.nilFunc] := by kernel_rfl
theorem tb_bytesK_90 : bytesK Tryz.prog 90 = some 8 := by kernel_rfl
theorem tb_sliceElem_90 : sliceElem Tryz.prog 90 = none := by kernel_rfl
theorem tb_arrElem_90 : arrElem Tryz.prog 90 = none := by kernel_rfl
theorem tb_byteEl_90 : byteEl Tryz.prog 90 = false := by kernel_rfl
theorem tb_tk_91 : tk Tryz.prog 91 = TK.slc := by kernel_rfl
theorem tb_loadK_91 : loadK Tryz.prog 91 = some (false, 1) := by kernel_rfl
theorem tb_zeroK_91 : zeroK Tryz.prog 91 = some [Value.slice none 0 0] := by kernel_rfl
theorem tb_bytesK_91 : bytesK Tryz.prog 91 = some 24 := by kernel_rfl
theorem tb_sliceElem_91 : sliceElem Tryz.prog 91 = some (108, 3) := by kernel_rfl
theorem tb_arrElem_91 : arrElem Tryz.prog 91 = none := by kernel_rfl
theorem tb_byteEl_91 : byteEl Tryz.prog 91 = false := by kernel_rfl
theorem tb_tk_92 : tk Tryz.prog 92 = TK.other := by kernel_rfl
theorem tb_loadK_92 : loadK Tryz.prog 92 = some (true, 6) := by kernel_rfl
theorem tb_zeroK_92 : zeroK Tryz.prog 92 = some [Value.slice none 0 0, Value.slice none 0 0, Value.slice none 0 0, Value.slice none 0 0, Value.slice none 0 0, Value.slice none 0 0] := by kernel_rfl
theorem tb_bytesK_92 : bytesK Tryz.prog 92 = some 144 := by kernel_rfl
theorem tb_sliceElem_92 : sliceElem Tryz.prog 92 = none := by kernel_rfl
theorem tb_arrElem_92 : arrElem Tryz.prog 92 = none := by kernel_rfl
theorem tb_placesK_92 : placesK Tryz.prog 92 = some [(0, 4), (4, 1), (5, 1)] := by kernel_rfl
theorem tb_byteEl_92 : byteEl Tryz.prog 92 = false := by kernel_rfl
theorem tb_fieldK_92_0 : fieldK Tryz.prog 92 0 = some (0, true, 4) := by kernel_rfl
theorem tb_fieldK_92_1 : fieldK Tryz.prog 92 1 = some (4, false, 1) := by kernel_rfl
theorem tb_fieldK_92_2 : fieldK Tryz.prog 92 2 = some (5, false, 1) := by kernel_rfl
theorem tb_tk_93 : tk Tryz.prog 93 = TK.other := by kernel_rfl
theorem tb_loadK_93 : loadK Tryz.prog 93 = some (true, 6) := by kernel_rfl
theorem tb_zeroK_93 : zeroK Tryz.prog 93 = some [Value.slice none 0 0, Value.slice none 0 0, Value.slice none 0 0, Value.slice none 0 0, Value.slice none 0 0, Value.slice none 0 0] := by kernel_rfl
theorem tb_bytesK_93 : bytesK Tryz.prog 93 = some 144 := by kernel_rfl
theorem tb_sliceElem_93 : sliceElem Tryz.prog 93 = none := by kernel_rfl
theorem tb_arrElem_93 : arrElem Tryz.prog 93 = none := by kernel_rfl
theorem tb_placesK_93 : placesK Tryz.prog 93 = some [(0, 4), (4, 1), (5, 1)] := by kernel_rfl
theorem tb_byteEl_93 : byteEl Tryz.prog 93 = false := by kernel_rfl
theorem tb_fieldK_93_0 : fieldK Tryz.prog 93 0 = some (0, true, 4) := by kernel_rfl
theorem tb_fieldK_93_1 : fieldK Tryz.prog 93 1 = some (4, false, 1) := by kernel_rfl
theorem tb_fieldK_93_2 : fieldK Tryz.prog 93 2 = some (5, false, 1) := by kernel_rfl
theorem tb_tk_94 : tk Tryz.prog 94 = TK.other := by kernel_rfl
theorem tb_loadK_94 : loadK Tryz.prog 94 = some (false, 1) := by kernel_rfl
theorem tb_zeroK_94 : zeroK Tryz.prog 94 = some [Value.nilFunc] := by kernel_rfl
theorem tb_bytesK_94 : bytesK Tryz.prog 94 = some 8 := by kernel_rfl
theorem tb_sliceElem_94 : sliceElem Tryz.prog 94 = none := by kernel_rfl
theorem tb_arrElem_94 : arrElem Tryz.prog 94 = none := by kernel_rfl
theorem tb_byteEl_94 : byteEl Tryz.prog 94 = false := by kernel_rfl
theorem tb_tk_95 : tk Tryz.prog 95 = TK.other := by kernel_rfl
theorem tb_loadK_95 : loadK Tryz.prog 95 = some (false, 1) := by kernel_rfl
theorem tb_zeroK_95 : zeroK Tryz.prog 95 = some [Value.nilFunc] := by kernel_rfl
theorem tb_bytesK_95 : bytesK Tryz.prog 95 = some 8 := by kernel_rfl
theorem tb_sliceElem_95 : sliceElem Tryz.prog 95 = none := by kernel_rfl
theorem tb_arrElem_95 : arrElem Tryz.prog 95 = none := by kernel_rfl
theorem tb_byteEl_95 : byteEl Tryz.prog 95 = false := by kernel_rfl
theorem tb_tk_97 : tk Tryz.prog 97 = TK.other := by kernel_rfl
theorem tb_loadK_97 : loadK Tryz.prog 97 = some (false, 1) := by kernel_rfl
theorem tb_zeroK_97 : zeroK Tryz.prog 97 = some [Value.tuple { toList := [Value.slice none 0 0, Value.int IntKind.i64 0] }] := by kernel_rfl
theorem tb_bytesK_97 : bytesK Tryz.prog 97 = some 0 := by kernel_rfl
theorem tb_sliceElem_97 : sliceElem Tryz.prog 97 = none := by kernel_rfl
theorem tb_arrElem_97 : arrElem Tryz.prog 97 = none := by kernel_rfl
theorem tb_byteEl_97 : byteEl Tryz.prog 97 = false := by kernel_rfl
theorem tb_tk_99 : tk Tryz.prog 99 = TK.other := by kernel_rfl
theorem tb_loadK_99 : loadK Tryz.prog 99 = some (false, 1) := by kernel_rfl
theorem tb_zeroK_99 : zeroK Tryz.prog 99 = some [Value.nilFunc] := by kernel_rfl
theorem tb_bytesK_99 : bytesK Tryz.prog 99 = some 8 := by kernel_rfl
theorem tb_sliceElem_99 : sliceElem Tryz.prog 99 = none := by kernel_rfl
theorem tb_arrElem_99 : arrElem Tryz.prog 99 = none := by kernel_rfl
theorem tb_byteEl_99 : byteEl Tryz.prog 99 = false := by kernel_rfl
theorem tb_tk_101 : tk Tryz.prog 101 = TK.other := by kernel_rfl
theorem tb_loadK_101 : loadK Tryz.prog 101 = some (true, 3) := by kernel_rfl
theorem tb_zeroK_101 : zeroK Tryz.prog 101 = some [Value.int IntKind.i64 0, Value.int IntKind.i64 0, Value.int IntKind.i64 0] := by kernel_rfl
theorem tb_bytesK_101 : bytesK Tryz.prog 101 = some 24 := by kernel_rfl
theorem tb_sliceElem_101 : sliceElem Tryz.prog 101 = none := by kernel_rfl
theorem tb_arrElem_101 : arrElem Tryz.prog 101 = none := by kernel_rfl
theorem tb_placesK_101 : placesK Tryz.prog 101 = some [(0, 1), (1, 1), (2, 1)] := by kernel_rfl
theorem tb_byteEl_101 : byteEl Tryz.prog 101 = false := by kernel_rfl
theorem tb_flatK_101 : flatK Tryz.prog 101 = some [TypeDesc.int IntKind.i64, TypeDesc.int IntKind.i64, TypeDesc.int IntKind.i64] := by kernel_rfl
theorem tb_fieldK_101_0 : fieldK Tryz.prog 101 0 = some (0, false, 1) := by kernel_rfl
theorem tb_fieldK_101_1 : fieldK Tryz.prog 101 1 = some (1, false, 1) := by kernel_rfl
theorem tb_fieldK_101_2 : fieldK Tryz.prog 101 2 = some (2, false, 1) := by kernel_rfl
theorem tb_tk_102 : tk Tryz.prog 102 = TK.other := by kernel_rfl
theorem tb_loadK_102 : loadK Tryz.prog 102 = some (false, 1) := by kernel_rfl
theorem tb_zeroK_102 : zeroK Tryz.prog 102 = some [Value.nilFunc] := by kernel_rfl
theorem tb_bytesK_102 : bytesK Tryz.prog 102 = some 8 := by kernel_rfl
theorem tb_sliceElem_102 : sliceElem Tryz.prog 102 = none := by kernel_rfl
theorem tb_arrElem_102 : arrElem Tryz.prog 102 = none := by kernel_rfl
theorem tb_byteEl_102 : byteEl Tryz.prog 102 = false := by kernel_rfl
theorem tb_tk_103 : tk Tryz.prog 103 = TK.other := by kernel_rfl
theorem tb_loadK_103 : loadK Tryz.prog 103 = some (false, 1) := by kernel_rfl
theorem tb_zeroK_103 : zeroK Tryz.prog 103 = some [Value.nilFunc] := by kernel_rfl
theorem tb_bytesK_103 : bytesK Tryz.prog 103 = some 8 := by kernel_rfl
theorem tb_sliceElem_103 : sliceElem Tryz.prog 103 = none := by kernel_rfl
theorem tb_arrElem_103 : arrElem Tryz.prog 103 = none := by kernel_rfl
theorem tb_byteEl_103 : byteEl Tryz.prog 103 = false := by kernel_rfl
theorem tb_tk_105 : tk Tryz.prog 105 = TK.other := by kernel_rfl
theorem tb_loadK_105 : loadK Tryz.prog 105 = some (false, 1) := by kernel_rfl
theorem tb_zeroK_105 : zeroK Tryz.prog 105 = some [Value.nilFunc] := by kernel_rfl
theorem tb_bytesK_105 : bytesK Tryz.prog 105 = some 8 := by kernel_rfl
theorem tb_sliceElem_105 : sliceElem Tryz.prog 105 = none := by kernel_rfl
theorem tb_arrElem_105 : arrElem Tryz.prog 105 = none := by kernel_rfl
theorem tb_byteEl_105 : byteEl Tryz.prog 105 = false := by kernel_rfl
theorem tb_tk_106 : tk Tryz.prog 106 = TK.other := by kernel_rfl
theorem tb_loadK_106 : loadK Tryz.prog 106 = some (false, 1) := by kernel_rfl
theorem tb_zeroK_106 : zeroK Tryz.prog 106 = some [Value.nilFunc] := by kernel_rfl
theorem tb_bytesK_106 : bytesK Tryz.prog 106 = some 8 := by kernel_rfl
theorem tb_sliceElem_106 : sliceElem Tryz.prog 106 = none := by kernel_rfl
theorem tb_arrElem_106 : arrElem Tryz.prog 106 = none := by kernel_rfl
theorem tb_byteEl_106 : byteEl Tryz.prog 106 = false := by kernel_rfl
theorem tb_tk_108 : tk Tryz.prog 108 = TK.other := by kernel_rfl
theorem tb_loadK_108 : loadK Tryz.prog 108 = some (true, 3) := by kernel_rfl
theorem tb_zeroK_108 : zeroK Tryz.prog 108 = some [Value.int IntKind.i64 0, Value.int IntKind.i64 0, Value.int IntKind.i64 0] := by kernel_rfl
theorem tb_bytesK_108 : bytesK Tryz.prog 108 = some 24 := by kernel_rfl
theorem tb_sliceElem_108 : sliceElem Tryz.prog 108 = none := by kernel_rfl
theorem tb_arrElem_108 : arrElem Tryz.prog 108 = none := by kernel_rfl
theorem tb_placesK_108 : placesK Tryz.prog 108 = some [(0, 1), (1, 1), (2, 1)] := by kernel_rfl
theorem tb_byteEl_108 : byteEl Tryz.prog 108 = false := by kernel_rfl
theorem tb_flatK_108 : flatK Tryz.prog 108 = some [TypeDesc.int IntKind.i64, TypeDesc.int IntKind.i64, TypeDesc.int IntKind.i64] := by kernel_rfl
theorem tb_fieldK_108_0 : fieldK Tryz.prog 108 0 = some (0, false, 1) := by kernel_rfl
theorem tb_fieldK_108_1 : fieldK Tryz.prog 108 1 = some (1, false, 1) := by kernel_rfl
theorem tb_fieldK_108_2 : fieldK Tryz.prog 108 2 = some (2, false, 1) := by kernel_rfl
theorem tb_tk_110 : tk Tryz.prog 110 = TK.other := by kernel_rfl
theorem tb_loadK_110 : loadK Tryz.prog 110 = some (true, 6) := by kernel_rfl
theorem tb_zeroK_110 : zeroK Tryz.prog 110 = some [Value.int IntKind.i64 0, Value.int IntKind.i64 0, Value.int IntKind.i64 0, Value.string ByteArray.empty, Value.string ByteArray.empty, Value.string ByteArray.empty] := by kernel_rfl
theorem tb_bytesK_110 : bytesK Tryz.prog 110 = some 72 := by kernel_rfl
theorem tb_sliceElem_110 : sliceElem Tryz.prog 110 = none := by kernel_rfl
theorem tb_arrElem_110 : arrElem Tryz.prog 110 = none := by kernel_rfl
theorem tb_placesK_110 : placesK Tryz.prog 110 = some [(0, 3), (3, 1), (4, 1), (5, 1)] := by kernel_rfl
theorem tb_byteEl_110 : byteEl Tryz.prog 110 = false := by kernel_rfl
theorem tb_flatK_110 : flatK Tryz.prog 110 = some [TypeDesc.int IntKind.i64, TypeDesc.int IntKind.i64, TypeDesc.int IntKind.i64, TypeDesc.string, TypeDesc.string, TypeDesc.string] := by kernel_rfl
theorem tb_fieldK_110_0 : fieldK Tryz.prog 110 0 = some (0, true, 3) := by kernel_rfl
theorem tb_fieldK_110_1 : fieldK Tryz.prog 110 1 = some (3, false, 1) := by kernel_rfl
theorem tb_fieldK_110_2 : fieldK Tryz.prog 110 2 = some (4, false, 1) := by kernel_rfl
theorem tb_fieldK_110_3 : fieldK Tryz.prog 110 3 = some (5, false, 1) := by kernel_rfl
theorem tb_tk_111 : tk Tryz.prog 111 = TK.other := by kernel_rfl
theorem tb_loadK_111 : loadK Tryz.prog 111 = some (false, 1) := by kernel_rfl
theorem tb_zeroK_111 : zeroK Tryz.prog 111 = some [Value.tuple { toList := [Value.agg { toList := [Value.int IntKind.i64 0, Value.int IntKind.i64 0, Value.int IntKind.i64 0, Value.string ByteArray.empty, Value.string ByteArray.empty, Value.string ByteArray.empty] }, Value.int IntKind.i64 0] }] := by kernel_rfl
theorem tb_bytesK_111 : bytesK Tryz.prog 111 = some 0 := by kernel_rfl
theorem tb_sliceElem_111 : sliceElem Tryz.prog 111 = none := by kernel_rfl
theorem tb_arrElem_111 : arrElem Tryz.prog 111 = none := by kernel_rfl
theorem tb_byteEl_111 : byteEl Tryz.prog 111 = false := by kernel_rfl
theorem tb_tk_113 : tk Tryz.prog 113 = TK.other := by kernel_rfl
theorem tb_loadK_113 : loadK Tryz.prog 113 = some (false, 1) := by kernel_rfl
theorem tb_zeroK_113 : zeroK Tryz.prog 113 = some [Value.nilFunc] := by kernel_rfl
theorem tb_bytesK_113 : bytesK Tryz.prog 113 = some 8 := by kernel_rfl
theorem tb_sliceElem_113 : sliceElem Tryz.prog 113 = none := by kernel_rfl
theorem tb_arrElem_113 : arrElem Tryz.prog 113 = none := by kernel_rfl
theorem tb_byteEl_113 : byteEl Tryz.prog 113 = false := by kernel_rfl
theorem tb_tk_115 : tk Tryz.prog 115 = TK.other := by kernel_rfl
theorem tb_loadK_115 : loadK Tryz.prog 115 = some (false, 1) := by kernel_rfl
theorem tb_zeroK_115 : zeroK Tryz.prog 115 = some [Value.nilFunc] := by kernel_rfl
theorem tb_bytesK_115 : bytesK Tryz.prog 115 = some 8 := by kernel_rfl
theorem tb_sliceElem_115 : sliceElem Tryz.prog 115 = none := by kernel_rfl
theorem tb_arrElem_115 : arrElem Tryz.prog 115 = none := by kernel_rfl
theorem tb_byteEl_115 : byteEl Tryz.prog 115 = false := by kernel_rfl
theorem tb_tk_116 : tk Tryz.prog 116 = TK.other := by kernel_rfl
theorem tb_loadK_116 : loadK Tryz.prog 116 = some (false, 1) := by kernel_rfl
theorem tb_zeroK_116 : zeroK Tryz.prog 116 = some [Value.nilFunc] := by kernel_rfl
theorem tb_bytesK_116 : bytesK Tryz.prog 116 = some 8 := by kernel_rfl
theorem tb_sliceElem_116 : sliceElem Tryz.prog 116 = none := by kernel_rfl
theorem tb_arrElem_116 : arrElem Tryz.prog 116 = none := by kernel_rfl
theorem tb_byteEl_116 : byteEl Tryz.prog 116 = false := by kernel_rfl
theorem tb_tk_118 : tk Tryz.prog 118 = TK.other := by kernel_rfl
theorem tb_loadK_118 : loadK Tryz.prog 118 = some (false, 1) := by kernel_rfl
theorem tb_zeroK_118 : zeroK Tryz.prog 118 = some [Value.nilFunc] := by kernel_rfl
theorem tb_bytesK_118 : bytesK Tryz.prog 118 = some 8 := by kernel_rfl
theorem tb_sliceElem_118 : sliceElem Tryz.prog 118 = none := by kernel_rfl
theorem tb_arrElem_118 : arrElem Tryz.prog 118 = none := by kernel_rfl
theorem tb_byteEl_118 : byteEl Tryz.prog 118 = false := by kernel_rfl
theorem tb_tk_127 : tk Tryz.prog 127 = TK.slc := by kernel_rfl
theorem tb_loadK_127 : loadK Tryz.prog 127 = some (false, 1) := by kernel_rfl
theorem tb_zeroK_127 : zeroK Tryz.prog 127 = some [Value.slice none 0 0] := by kernel_rfl
theorem tb_bytesK_127 : bytesK Tryz.prog 127 = some 24 := by kernel_rfl
theorem tb_sliceElem_127 : sliceElem Tryz.prog 127 = some (5, 1) := by kernel_rfl
theorem tb_arrElem_127 : arrElem Tryz.prog 127 = none := by kernel_rfl
theorem tb_byteEl_127 : byteEl Tryz.prog 127 = true := by kernel_rfl
theorem tb_tk_128 : tk Tryz.prog 128 = TK.other := by kernel_rfl
theorem tb_loadK_128 : loadK Tryz.prog 128 = some (false, 1) := by kernel_rfl
theorem tb_zeroK_128 : zeroK Tryz.prog 128 = some [Value.nilFunc] := by kernel_rfl
theorem tb_bytesK_128 : bytesK Tryz.prog 128 = some 8 := by kernel_rfl
theorem tb_sliceElem_128 : sliceElem Tryz.prog 128 = none := by kernel_rfl
theorem tb_arrElem_128 : arrElem Tryz.prog 128 = none := by kernel_rfl
theorem tb_byteEl_128 : byteEl Tryz.prog 128 = false := by kernel_rfl
theorem tb_tk_129 : tk Tryz.prog 129 = TK.other := by kernel_rfl
theorem tb_loadK_129 : loadK Tryz.prog 129 = some (false, 1) := by kernel_rfl
theorem tb_zeroK_129 : zeroK Tryz.prog 129 = some [Value.nilFunc] := by kernel_rfl
theorem tb_bytesK_129 : bytesK Tryz.prog 129 = some 8 := by kernel_rfl
theorem tb_sliceElem_129 : sliceElem Tryz.prog 129 = none := by kernel_rfl
theorem tb_arrElem_129 : arrElem Tryz.prog 129 = none := by kernel_rfl
theorem tb_byteEl_129 : byteEl Tryz.prog 129 = false := by kernel_rfl
theorem tb_tk_130 : tk Tryz.prog 130 = TK.mp := by kernel_rfl
theorem tb_loadK_130 : loadK Tryz.prog 130 = some (false, 1) := by kernel_rfl
theorem tb_zeroK_130 : zeroK Tryz.prog 130 = some [Value.map none] := by kernel_rfl
theorem tb_bytesK_130 : bytesK Tryz.prog 130 = some 8 := by kernel_rfl
theorem tb_byteEl_130 : byteEl Tryz.prog 130 = false := by kernel_rfl
theorem tb_mapK_130 : mapK Tryz.prog 130 = some (KD.agg [TypeDesc.int IntKind.i64, TypeDesc.int IntKind.i64, TypeDesc.bool], V.v (Value.int IntKind.i64 0)) := by kernel_rfl
theorem tb_tk_131 : tk Tryz.prog 131 = TK.other := by kernel_rfl
theorem tb_loadK_131 : loadK Tryz.prog 131 = some (false, 1) := by kernel_rfl
theorem tb_zeroK_131 : zeroK Tryz.prog 131 = some [Value.nilFunc] := by kernel_rfl
theorem tb_bytesK_131 : bytesK Tryz.prog 131 = some 8 := by kernel_rfl
theorem tb_sliceElem_131 : sliceElem Tryz.prog 131 = none := by kernel_rfl
theorem tb_arrElem_131 : arrElem Tryz.prog 131 = none := by kernel_rfl
theorem tb_byteEl_131 : byteEl Tryz.prog 131 = false := by kernel_rfl
theorem tb_tk_133 : tk Tryz.prog 133 = TK.other := by kernel_rfl
theorem tb_loadK_133 : loadK Tryz.prog 133 = some (true, 3) := by kernel_rfl
theorem tb_zeroK_133 : zeroK Tryz.prog 133 = some [Value.int IntKind.i64 0, Value.int IntKind.i64 0, Value.bool false] := by kernel_rfl
theorem tb_bytesK_133 : bytesK Tryz.prog 133 = some 24 := by kernel_rfl
theorem tb_sliceElem_133 : sliceElem Tryz.prog 133 = none := by kernel_rfl
theorem tb_arrElem_133 : arrElem Tryz.prog 133 = none := by kernel_rfl
theorem tb_placesK_133 : placesK Tryz.prog 133 = some [(0, 1), (1, 1), (2, 1)] := by kernel_rfl
theorem tb_byteEl_133 : byteEl Tryz.prog 133 = false := by kernel_rfl
theorem tb_flatK_133 : flatK Tryz.prog 133 = some [TypeDesc.int IntKind.i64, TypeDesc.int IntKind.i64, TypeDesc.bool] := by kernel_rfl
theorem tb_fieldK_133_0 : fieldK Tryz.prog 133 0 = some (0, false, 1) := by kernel_rfl
theorem tb_fieldK_133_1 : fieldK Tryz.prog 133 1 = some (1, false, 1) := by kernel_rfl
theorem tb_fieldK_133_2 : fieldK Tryz.prog 133 2 = some (2, false, 1) := by kernel_rfl
theorem tb_tk_134 : tk Tryz.prog 134 = TK.other := by kernel_rfl
theorem tb_loadK_134 : loadK Tryz.prog 134 = some (false, 1) := by kernel_rfl
theorem tb_zeroK_134 : zeroK Tryz.prog 134 = some [Value.tuple { toList := [Value.int IntKind.i64 0, Value.bool false] }] := by kernel_rfl
theorem tb_bytesK_134 : bytesK Tryz.prog 134 = some 0 := by kernel_rfl
theorem tb_sliceElem_134 : sliceElem Tryz.prog 134 = none := by kernel_rfl
theorem tb_arrElem_134 : arrElem Tryz.prog 134 = none := by kernel_rfl
theorem tb_byteEl_134 : byteEl Tryz.prog 134 = false := by kernel_rfl
theorem tb_tk_135 : tk Tryz.prog 135 = TK.other := by kernel_rfl
theorem tb_loadK_135 : loadK Tryz.prog 135 = some (false, 1) := by kernel_rfl
theorem tb_zeroK_135 : zeroK Tryz.prog 135 = some [Value.nilFunc] := by kernel_rfl
theorem tb_bytesK_135 : bytesK Tryz.prog 135 = some 8 := by kernel_rfl
theorem tb_sliceElem_135 : sliceElem Tryz.prog 135 = none := by kernel_rfl
theorem tb_arrElem_135 : arrElem Tryz.prog 135 = none := by kernel_rfl
theorem tb_byteEl_135 : byteEl Tryz.prog 135 = false := by kernel_rfl
theorem tb_tk_137 : tk Tryz.prog 137 = TK.other := by kernel_rfl
theorem tb_loadK_137 : loadK Tryz.prog 137 = some (true, 2) := by kernel_rfl
theorem tb_zeroK_137 : zeroK Tryz.prog 137 = some [Value.int IntKind.u8 0, Value.nilFunc] := by kernel_rfl
theorem tb_bytesK_137 : bytesK Tryz.prog 137 = some 16 := by kernel_rfl
theorem tb_sliceElem_137 : sliceElem Tryz.prog 137 = none := by kernel_rfl
theorem tb_arrElem_137 : arrElem Tryz.prog 137 = none := by kernel_rfl
theorem tb_placesK_137 : placesK Tryz.prog 137 = some [(0, 1), (1, 1)] := by kernel_rfl
theorem tb_byteEl_137 : byteEl Tryz.prog 137 = false := by kernel_rfl
theorem tb_fieldK_137_0 : fieldK Tryz.prog 137 0 = some (0, false, 1) := by kernel_rfl
theorem tb_fieldK_137_1 : fieldK Tryz.prog 137 1 = some (1, false, 1) := by kernel_rfl
theorem tb_tk_138 : tk Tryz.prog 138 = TK.other := by kernel_rfl
theorem tb_loadK_138 : loadK Tryz.prog 138 = some (true, 6) := by kernel_rfl
theorem tb_zeroK_138 : zeroK Tryz.prog 138 = some [Value.int IntKind.u8 0, Value.nilFunc, Value.int IntKind.u8 0, Value.nilFunc, Value.int IntKind.u8 0, Value.nilFunc] := by kernel_rfl
theorem tb_bytesK_138 : bytesK Tryz.prog 138 = some 48 := by kernel_rfl
theorem tb_sliceElem_138 : sliceElem Tryz.prog 138 = none := by kernel_rfl
theorem tb_arrElem_138 : arrElem Tryz.prog 138 = some (3, 2) := by kernel_rfl
theorem tb_placesK_138 : placesK Tryz.prog 138 = some [(0, 2), (2, 2), (4, 2), (6, 2), (8, 2), (10, 2), (12, 2), (14, 2)] := by kernel_rfl
theorem tb_byteEl_138 : byteEl Tryz.prog 138 = false := by kernel_rfl
theorem tb_arrLoad_138 : arrLoad Tryz.prog 138 = some (3, true, 2) := by kernel_rfl
theorem tb_tk_139 : tk Tryz.prog 139 = TK.other := by kernel_rfl
theorem tb_loadK_139 : loadK Tryz.prog 139 = some (false, 1) := by kernel_rfl
theorem tb_zeroK_139 : zeroK Tryz.prog 139 = some [Value.tuple { toList := [Value.int IntKind.i64 0, Value.agg { toList := [Value.int IntKind.i64 0, Value.int IntKind.i64 0, Value.bool false] }, Value.bool false] }] := by kernel_rfl
theorem tb_bytesK_139 : bytesK Tryz.prog 139 = some 0 := by kernel_rfl
theorem tb_sliceElem_139 : sliceElem Tryz.prog 139 = none := by kernel_rfl
theorem tb_arrElem_139 : arrElem Tryz.prog 139 = none := by kernel_rfl
theorem tb_byteEl_139 : byteEl Tryz.prog 139 = false := by kernel_rfl
theorem tb_tk_144 : tk Tryz.prog 144 = TK.other := by kernel_rfl
theorem tb_loadK_144 : loadK Tryz.prog 144 = some (false, 1) := by kernel_rfl
theorem tb_zeroK_144 : zeroK Tryz.prog 144 = some [Value.tuple { toList := [Value.agg { toList := [Value.int IntKind.i64 0, Value.int IntKind.i64 0, Value.int IntKind.i64 0, Value.string ByteArray.empty, Value.string ByteArray.empty, Value.string ByteArray.empty] }, Value.bool false] }] := by kernel_rfl
theorem tb_bytesK_144 : bytesK Tryz.prog 144 = some 0 := by kernel_rfl
theorem tb_sliceElem_144 : sliceElem Tryz.prog 144 = none := by kernel_rfl
theorem tb_arrElem_144 : arrElem Tryz.prog 144 = none := by kernel_rfl
theorem tb_byteEl_144 : byteEl Tryz.prog 144 = false := by kernel_rfl
theorem tb_tk_146 : tk Tryz.prog 146 = TK.other := by kernel_rfl
theorem tb_loadK_146 : loadK Tryz.prog 146 = some (false, 1) := by kernel_rfl
theorem tb_zeroK_146 : zeroK Tryz.prog 146 = some [Value.nilFunc] := by kernel_rfl
theorem tb_bytesK_146 : bytesK Tryz.prog 146 = some 8 := by kernel_rfl
theorem tb_sliceElem_146 : sliceElem Tryz.prog 146 = none := by kernel_rfl
theorem tb_arrElem_146 : arrElem Tryz.prog 146 = none := by kernel_rfl
theorem tb_byteEl_146 : byteEl Tryz.prog 146 = false := by kernel_rfl
theorem tb_tk_149 : tk Tryz.prog 149 = TK.other := by kernel_rfl
theorem tb_loadK_149 : loadK Tryz.prog 149 = some (true, 8) := by kernel_rfl
theorem tb_zeroK_149 : zeroK Tryz.prog 149 = some [Value.int IntKind.i64 0, Value.int IntKind.i64 0, Value.int IntKind.i64 0, Value.int IntKind.i64 0, Value.int IntKind.i64 0, Value.int IntKind.i64 0, Value.int IntKind.i64 0, Value.int IntKind.i64 0] := by kernel_rfl
theorem tb_bytesK_149 : bytesK Tryz.prog 149 = some 64 := by kernel_rfl
theorem tb_sliceElem_149 : sliceElem Tryz.prog 149 = none := by kernel_rfl
theorem tb_arrElem_149 : arrElem Tryz.prog 149 = some (2, 4) := by kernel_rfl
theorem tb_placesK_149 : placesK Tryz.prog 149 = some [(0, 4), (4, 4), (8, 4), (12, 4), (16, 4), (20, 4), (24, 4), (28, 4)] := by kernel_rfl
theorem tb_byteEl_149 : byteEl Tryz.prog 149 = false := by kernel_rfl
theorem tb_flatK_149 : flatK Tryz.prog 149 = some [TypeDesc.int IntKind.i64, TypeDesc.int IntKind.i64, TypeDesc.int IntKind.i64, TypeDesc.int IntKind.i64, TypeDesc.int IntKind.i64, TypeDesc.int IntKind.i64, TypeDesc.int IntKind.i64, TypeDesc.int IntKind.i64] := by kernel_rfl
theorem tb_arrLoad_149 : arrLoad Tryz.prog 149 = some (2, true, 4) := by kernel_rfl
theorem tb_tk_152 : tk Tryz.prog 152 = TK.other := by kernel_rfl
theorem tb_loadK_152 : loadK Tryz.prog 152 = some (false, 1) := by kernel_rfl
theorem tb_zeroK_152 : zeroK Tryz.prog 152 = some [Value.nilFunc] := by kernel_rfl
theorem tb_bytesK_152 : bytesK Tryz.prog 152 = some 8 := by kernel_rfl
theorem tb_sliceElem_152 : sliceElem Tryz.prog 152 = none := by kernel_rfl
theorem tb_arrElem_152 : arrElem Tryz.prog 152 = none := by kernel_rfl
theorem tb_byteEl_152 : byteEl Tryz.prog 152 = false := by kernel_rfl
theorem tb_tk_157 : tk Tryz.prog 157 = TK.other := by kernel_rfl
theorem tb_loadK_157 : loadK Tryz.prog 157 = some (true, 4) := by kernel_rfl
theorem tb_zeroK_157 : zeroK Tryz.prog 157 = some [Value.int IntKind.i64 0, Value.int IntKind.u8 0, Value.slice none 0 0, Value.slice none 0 0] := by kernel_rfl
theorem tb_bytesK_157 : bytesK Tryz.prog 157 = some 64 := by kernel_rfl
theorem tb_sliceElem_157 : sliceElem Tryz.prog 157 = none := by kernel_rfl
theorem tb_arrElem_157 : arrElem Tryz.prog 157 = none := by kernel_rfl
theorem tb_placesK_157 : placesK Tryz.prog 157 = some [(0, 2), (2, 1), (3, 1)] := by kernel_rfl
theorem tb_byteEl_157 : byteEl Tryz.prog 157 = false := by kernel_rfl
theorem tb_fieldK_157_0 : fieldK Tryz.prog 157 0 = some (0, true, 2) := by kernel_rfl
theorem tb_fieldK_157_1 : fieldK Tryz.prog 157 1 = some (2, false, 1) := by kernel_rfl
theorem tb_fieldK_157_2 : fieldK Tryz.prog 157 2 = some (3, false, 1) := by kernel_rfl
theorem tb_tk_163 : tk Tryz.prog 163 = TK.other := by kernel_rfl
theorem tb_loadK_163 : loadK Tryz.prog 163 = some (true, 4) := by kernel_rfl
theorem tb_zeroK_163 : zeroK Tryz.prog 163 = some [Value.int IntKind.i64 0, Value.int IntKind.i64 0, Value.int IntKind.i64 0, Value.int IntKind.i64 0] := by kernel_rfl
theorem tb_bytesK_163 : bytesK Tryz.prog 163 = some 32 := by kernel_rfl
theorem tb_sliceElem_163 : sliceElem Tryz.prog 163 = none := by kernel_rfl
theorem tb_arrElem_163 : arrElem Tryz.prog 163 = none := by kernel_rfl
theorem tb_placesK_163 : placesK Tryz.prog 163 = some [(0, 1), (1, 1), (2, 1), (3, 1)] := by kernel_rfl
theorem tb_byteEl_163 : byteEl Tryz.prog 163 = false := by kernel_rfl
theorem tb_flatK_163 : flatK Tryz.prog 163 = some [TypeDesc.int IntKind.i64, TypeDesc.int IntKind.i64, TypeDesc.int IntKind.i64, TypeDesc.int IntKind.i64] := by kernel_rfl
theorem tb_fieldK_163_0 : fieldK Tryz.prog 163 0 = some (0, false, 1) := by kernel_rfl
theorem tb_fieldK_163_1 : fieldK Tryz.prog 163 1 = some (1, false, 1) := by kernel_rfl
theorem tb_fieldK_163_2 : fieldK Tryz.prog 163 2 = some (2, false, 1) := by kernel_rfl
theorem tb_fieldK_163_3 : fieldK Tryz.prog 163 3 = some (3, false, 1) := by kernel_rfl
theorem tb_tk_165 : tk Tryz.prog 165 = TK.other := by kernel_rfl
theorem tb_loadK_165 : loadK Tryz.prog 165 = some (false, 1) := by kernel_rfl
theorem tb_zeroK_165 : zeroK Tryz.prog 165 = some [Value.nilFunc] := by kernel_rfl
theorem tb_bytesK_165 : bytesK Tryz.prog 165 = some 8 := by kernel_rfl
theorem tb_sliceElem_165 : sliceElem Tryz.prog 165 = none := by kernel_rfl
theorem tb_arrElem_165 : arrElem Tryz.prog 165 = none := by kernel_rfl
theorem tb_byteEl_165 : byteEl Tryz.prog 165 = false := by kernel_rfl
theorem tb_tk_166 : tk Tryz.prog 166 = TK.other := by kernel_rfl
theorem tb_loadK_166 : loadK Tryz.prog 166 = some (false, 1) := by kernel_rfl
theorem tb_zeroK_166 : zeroK Tryz.prog 166 = some [Value.nilFunc] := by kernel_rfl
theorem tb_bytesK_166 : bytesK Tryz.prog 166 = some 8 := by kernel_rfl
theorem tb_sliceElem_166 : sliceElem Tryz.prog 166 = none := by kernel_rfl
theorem tb_arrElem_166 : arrElem Tryz.prog 166 = none := by kernel_rfl
theorem tb_byteEl_166 : byteEl Tryz.prog 166 = false := by kernel_rfl
theorem tb_tk_169 : tk Tryz.prog 169 = TK.other := by kernel_rfl
theorem tb_loadK_169 : loadK Tryz.prog 169 = some (false, 1) := by kernel_rfl
theorem tb_zeroK_169 : zeroK Tryz.prog 169 = some [Value.nilFunc] := by kernel_rfl
theorem tb_bytesK_169 : bytesK Tryz.prog 169 = some 8 := by kernel_rfl
theorem tb_sliceElem_169 : sliceElem Tryz.prog 169 = none := by kernel_rfl
theorem tb_arrElem_169 : arrElem Tryz.prog 169 = none := by kernel_rfl
theorem tb_byteEl_169 : byteEl Tryz.prog 169 = false := by kernel_rfl
theorem tb_tk_170 : tk Tryz.prog 170 = TK.other := by kernel_rfl
theorem tb_loadK_170 : loadK Tryz.prog 170 = some (true, 1) := by kernel_rfl
theorem tb_zeroK_170 : zeroK Tryz.prog 170 = some [Value.nilFunc] := by kernel_rfl
theorem tb_bytesK_170 : bytesK Tryz.prog 170 = some 8 := by kernel_rfl
theorem tb_sliceElem_170 : sliceElem Tryz.prog 170 = none := by kernel_rfl
theorem tb_arrElem_170 : arrElem Tryz.prog 170 = none := by kernel_rfl
theorem tb_placesK_170 : placesK Tryz.prog 170 = some [(0, 1)] := by kernel_rfl
theorem tb_byteEl_170 : byteEl Tryz.prog 170 = false := by kernel_rfl
theorem tb_fieldK_170_0 : fieldK Tryz.prog 170 0 = some (0, false, 1) := by kernel_rfl
theorem tb_tk_171 : tk Tryz.prog 171 = TK.other := by kernel_rfl
theorem tb_loadK_171 : loadK Tryz.prog 171 = some (true, 4) := by kernel_rfl
theorem tb_zeroK_171 : zeroK Tryz.prog 171 = some [Value.nilFunc, Value.nilFunc, Value.nilFunc, Value.nilFunc] := by kernel_rfl
theorem tb_bytesK_171 : bytesK Tryz.prog 171 = some 32 := by kernel_rfl
theorem tb_sliceElem_171 : sliceElem Tryz.prog 171 = none := by kernel_rfl
theorem tb_arrElem_171 : arrElem Tryz.prog 171 = some (4, 1) := by kernel_rfl
theorem tb_placesK_171 : placesK Tryz.prog 171 = some [(0, 1), (1, 1), (2, 1), (3, 1), (4, 1), (5, 1), (6, 1), (7, 1)] := by kernel_rfl
theorem tb_byteEl_171 : byteEl Tryz.prog 171 = false := by kernel_rfl
theorem tb_arrLoad_171 : arrLoad Tryz.prog 171 = some (4, true, 1) := by kernel_rfl
theorem tb_tk_173 : tk Tryz.prog 173 = TK.other := by kernel_rfl
theorem tb_loadK_173 : loadK Tryz.prog 173 = some (false, 1) := by kernel_rfl
theorem tb_zeroK_173 : zeroK Tryz.prog 173 = some [Value.nilFunc] := by kernel_rfl
theorem tb_bytesK_173 : bytesK Tryz.prog 173 = some 8 := by kernel_rfl
theorem tb_sliceElem_173 : sliceElem Tryz.prog 173 = none := by kernel_rfl
theorem tb_arrElem_173 : arrElem Tryz.prog 173 = none := by kernel_rfl
theorem tb_byteEl_173 : byteEl Tryz.prog 173 = false := by kernel_rfl
theorem tb_tk_174 : tk Tryz.prog 174 = TK.ptr := by kernel_rfl
theorem tb_loadK_174 : loadK Tryz.prog 174 = some (false, 1) := by kernel_rfl
theorem tb_zeroK_174 : zeroK Tryz.prog 174 = some [Value.pointer none] := by kernel_rfl
theorem tb_bytesK_174 : bytesK Tryz.prog 174 = some 8 := by kernel_rfl
theorem tb_sliceElem_174 : sliceElem Tryz.prog 174 = none := by kernel_rfl
theorem tb_arrElem_174 : arrElem Tryz.prog 174 = none := by kernel_rfl
theorem tb_byteEl_174 : byteEl Tryz.prog 174 = false := by kernel_rfl
theorem tb_tk_176 : tk Tryz.prog 176 = TK.other := by kernel_rfl
theorem tb_loadK_176 : loadK Tryz.prog 176 = some (true, 2) := by kernel_rfl
theorem tb_zeroK_176 : zeroK Tryz.prog 176 = some [Value.pointer none, Value.slice none 0 0] := by kernel_rfl
theorem tb_bytesK_176 : bytesK Tryz.prog 176 = some 32 := by kernel_rfl
theorem tb_sliceElem_176 : sliceElem Tryz.prog 176 = none := by kernel_rfl
theorem tb_arrElem_176 : arrElem Tryz.prog 176 = none := by kernel_rfl
theorem tb_placesK_176 : placesK Tryz.prog 176 = some [(0, 1), (1, 1)] := by kernel_rfl
theorem tb_byteEl_176 : byteEl Tryz.prog 176 = false := by kernel_rfl
theorem tb_fieldK_176_0 : fieldK Tryz.prog 176 0 = some (0, false, 1) := by kernel_rfl
theorem tb_fieldK_176_1 : fieldK Tryz.prog 176 1 = some (1, false, 1) := by kernel_rfl
theorem tb_tk_179 : tk Tryz.prog 179 = TK.other := by kernel_rfl
theorem tb_loadK_179 : loadK Tryz.prog 179 = some (false, 1) := by kernel_rfl
theorem tb_zeroK_179 : zeroK Tryz.prog 179 = some [Value.nilIface] := by kernel_rfl
theorem tb_bytesK_179 : bytesK Tryz.prog 179 = some 16 := by kernel_rfl
theorem tb_sliceElem_179 : sliceElem Tryz.prog 179 = none := by kernel_rfl
theorem tb_arrElem_179 : arrElem Tryz.prog 179 = none := by kernel_rfl
theorem tb_byteEl_179 : byteEl Tryz.prog 179 = false := by kernel_rfl
theorem tb_tk_180 : tk Tryz.prog 180 = TK.other := by kernel_rfl
theorem tb_loadK_180 : loadK Tryz.prog 180 = some (false, 1) := by kernel_rfl
theorem tb_zeroK_180 : zeroK Tryz.prog 180 = some [Value.tuple { toList := [Value.int IntKind.i64 0, Value.nilIface] }] := by kernel_rfl
theorem tb_bytesK_180 : bytesK Tryz.prog 180 = some 0 := by kernel_rfl
theorem tb_sliceElem_180 : sliceElem Tryz.prog 180 = none := by kernel_rfl
theorem tb_arrElem_180 : arrElem Tryz.prog 180 = none := by kernel_rfl
theorem tb_byteEl_180 : byteEl Tryz.prog 180 = false := by kernel_rfl
theorem tb_tk_183 : tk Tryz.prog 183 = TK.ptr := by kernel_rfl
theorem tb_loadK_183 : loadK Tryz.prog 183 = some (false, 1) := by kernel_rfl
theorem tb_zeroK_183 : zeroK Tryz.prog 183 = some [Value.pointer none] := by kernel_rfl
theorem tb_bytesK_183 : bytesK Tryz.prog 183 = some 8 := by kernel_rfl
theorem tb_sliceElem_183 : sliceElem Tryz.prog 183 = none := by kernel_rfl
theorem tb_arrElem_183 : arrElem Tryz.prog 183 = none := by kernel_rfl
theorem tb_byteEl_183 : byteEl Tryz.prog 183 = false := by kernel_rfl
theorem tb_tk_184 : tk Tryz.prog 184 = TK.other := by kernel_rfl
theorem tb_loadK_184 : loadK Tryz.prog 184 = some (false, 1) := by kernel_rfl
theorem tb_zeroK_184 : zeroK Tryz.prog 184 = some [Value.pointer none] := by kernel_rfl
theorem tb_bytesK_184 : bytesK Tryz.prog 184 = some 8 := by kernel_rfl
theorem tb_sliceElem_184 : sliceElem Tryz.prog 184 = none := by kernel_rfl
theorem tb_arrElem_184 : arrElem Tryz.prog 184 = none := by kernel_rfl
theorem tb_byteEl_184 : byteEl Tryz.prog 184 = false := by kernel_rfl
theorem tb_tk_203 : tk Tryz.prog 203 = TK.slc := by kernel_rfl
theorem tb_loadK_203 : loadK Tryz.prog 203 = some (false, 1) := by kernel_rfl
theorem tb_zeroK_203 : zeroK Tryz.prog 203 = some [Value.slice none 0 0] := by kernel_rfl
theorem tb_bytesK_203 : bytesK Tryz.prog 203 = some 24 := by kernel_rfl
theorem tb_sliceElem_203 : sliceElem Tryz.prog 203 = some (215, 5) := by kernel_rfl
theorem tb_arrElem_203 : arrElem Tryz.prog 203 = none := by kernel_rfl
theorem tb_byteEl_203 : byteEl Tryz.prog 203 = false := by kernel_rfl
theorem tb_tk_206 : tk Tryz.prog 206 = TK.other := by kernel_rfl
theorem tb_loadK_206 : loadK Tryz.prog 206 = some (false, 1) := by kernel_rfl
theorem tb_zeroK_206 : zeroK Tryz.prog 206 = some [Value.nilFunc] := by kernel_rfl
theorem tb_bytesK_206 : bytesK Tryz.prog 206 = some 8 := by kernel_rfl
theorem tb_sliceElem_206 : sliceElem Tryz.prog 206 = none := by kernel_rfl
theorem tb_arrElem_206 : arrElem Tryz.prog 206 = none := by kernel_rfl
theorem tb_byteEl_206 : byteEl Tryz.prog 206 = false := by kernel_rfl
theorem tb_tk_209 : tk Tryz.prog 209 = TK.other := by kernel_rfl
theorem tb_loadK_209 : loadK Tryz.prog 209 = some (true, 3) := by kernel_rfl
theorem tb_zeroK_209 : zeroK Tryz.prog 209 = some [Value.int IntKind.u8 0, Value.int IntKind.i64 0, Value.int IntKind.i64 0] := by kernel_rfl
theorem tb_bytesK_209 : bytesK Tryz.prog 209 = some 24 := by kernel_rfl
theorem tb_sliceElem_209 : sliceElem Tryz.prog 209 = none := by kernel_rfl
theorem tb_arrElem_209 : arrElem Tryz.prog 209 = none := by kernel_rfl
theorem tb_placesK_209 : placesK Tryz.prog 209 = some [(0, 1), (1, 1), (2, 1)] := by kernel_rfl
theorem tb_byteEl_209 : byteEl Tryz.prog 209 = false := by kernel_rfl
theorem tb_flatK_209 : flatK Tryz.prog 209 = some [TypeDesc.int IntKind.u8, TypeDesc.int IntKind.i64, TypeDesc.int IntKind.i64] := by kernel_rfl
theorem tb_fieldK_209_0 : fieldK Tryz.prog 209 0 = some (0, false, 1) := by kernel_rfl
theorem tb_fieldK_209_1 : fieldK Tryz.prog 209 1 = some (1, false, 1) := by kernel_rfl
theorem tb_fieldK_209_2 : fieldK Tryz.prog 209 2 = some (2, false, 1) := by kernel_rfl
theorem tb_tk_210 : tk Tryz.prog 210 = TK.other := by kernel_rfl
theorem tb_loadK_210 : loadK Tryz.prog 210 = some (true, 9) := by kernel_rfl
theorem tb_zeroK_210 : zeroK Tryz.prog 210 = some [Value.int IntKind.u8 0, Value.int IntKind.i64 0, Value.int IntKind.i64 0, Value.int IntKind.u8 0, Value.int IntKind.i64 0, Value.int IntKind.i64 0, Value.int IntKind.u8 0, Value.int IntKind.i64 0, Value.int IntKind.i64 0] := by kernel_rfl
theorem tb_bytesK_210 : bytesK Tryz.prog 210 = some 72 := by kernel_rfl
theorem tb_sliceElem_210 : sliceElem Tryz.prog 210 = none := by kernel_rfl
theorem tb_arrElem_210 : arrElem Tryz.prog 210 = some (3, 3) := by kernel_rfl
theorem tb_placesK_210 : placesK Tryz.prog 210 = some [(0, 3), (3, 3), (6, 3), (9, 3), (12, 3), (15, 3), (18, 3), (21, 3)] := by kernel_rfl
theorem tb_byteEl_210 : byteEl Tryz.prog 210 = false := by kernel_rfl
theorem tb_flatK_210 : flatK Tryz.prog 210 = some [TypeDesc.int IntKind.u8, TypeDesc.int IntKind.i64, TypeDesc.int IntKind.i64, TypeDesc.int IntKind.u8, TypeDesc.int IntKind.i64, TypeDesc.int IntKind.i64, TypeDesc.int IntKind.u8, TypeDesc.int IntKind.i64, TypeDesc.int IntKind.i64] := by kernel_rfl
theorem tb_arrLoad_210 : arrLoad Tryz.prog 210 = some (3, true, 3) := by kernel_rfl
theorem tb_tk_211 : tk Tryz.prog 211 = TK.mp := by kernel_rfl
theorem tb_loadK_211 : loadK Tryz.prog 211 = some (false, 1) := by kernel_rfl
theorem tb_zeroK_211 : zeroK Tryz.prog 211 = some [Value.map none] := by kernel_rfl
theorem tb_bytesK_211 : bytesK Tryz.prog 211 = some 8 := by kernel_rfl
theorem tb_byteEl_211 : byteEl Tryz.prog 211 = false := by kernel_rfl
theorem tb_mapK_211 : mapK Tryz.prog 211 = some (KD.agg [TypeDesc.int IntKind.i64, TypeDesc.int IntKind.i64], V.v (Value.int IntKind.i64 0)) := by kernel_rfl
theorem tb_tk_212 : tk Tryz.prog 212 = TK.other := by kernel_rfl
theorem tb_loadK_212 : loadK Tryz.prog 212 = some (false, 1) := by kernel_rfl
theorem tb_zeroK_212 : zeroK Tryz.prog 212 = some [Value.nilFunc] := by kernel_rfl
theorem tb_bytesK_212 : bytesK Tryz.prog 212 = some 8 := by kernel_rfl
theorem tb_sliceElem_212 : sliceElem Tryz.prog 212 = none := by kernel_rfl
theorem tb_arrElem_212 : arrElem Tryz.prog 212 = none := by kernel_rfl
theorem tb_byteEl_212 : byteEl Tryz.prog 212 = false := by kernel_rfl
theorem tb_tk_213 : tk Tryz.prog 213 = TK.other := by kernel_rfl
theorem tb_loadK_213 : loadK Tryz.prog 213 = some (false, 1) := by kernel_rfl
theorem tb_zeroK_213 : zeroK Tryz.prog 213 = some [Value.tuple { toList := [Value.agg { toList := [Value.int IntKind.u8 0, Value.int IntKind.i64 0, Value.int IntKind.i64 0] }, Value.int IntKind.i64 0] }] := by kernel_rfl
theorem tb_bytesK_213 : bytesK Tryz.prog 213 = some 0 := by kernel_rfl
theorem tb_sliceElem_213 : sliceElem Tryz.prog 213 = none := by kernel_rfl
theorem tb_arrElem_213 : arrElem Tryz.prog 213 = none := by kernel_rfl
theorem tb_byteEl_213 : byteEl Tryz.prog 213 = false := by kernel_rfl
theorem tb_tk_215 : tk Tryz.prog 215 = TK.other := by kernel_rfl
theorem tb_loadK_215 : loadK Tryz.prog 215 = some (true, 5) := by kernel_rfl
theorem tb_zeroK_215 : zeroK Tryz.prog 215 = some [Value.int IntKind.i64 0, Value.int IntKind.i64 0, Value.int IntKind.i64 0, Value.int IntKind.u8 0, Value.string ByteArray.empty] := by kernel_rfl
theorem tb_bytesK_215 : bytesK Tryz.prog 215 = some 48 := by kernel_rfl
theorem tb_sliceElem_215 : sliceElem Tryz.prog 215 = none := by kernel_rfl
theorem tb_arrElem_215 : arrElem Tryz.prog 215 = none := by kernel_rfl
theorem tb_placesK_215 : placesK Tryz.prog 215 = some [(0, 3), (3, 1), (4, 1)] := by kernel_rfl
theorem tb_byteEl_215 : byteEl Tryz.prog 215 = false := by kernel_rfl
theorem tb_flatK_215 : flatK Tryz.prog 215 = some [TypeDesc.int IntKind.i64, TypeDesc.int IntKind.i64, TypeDesc.int IntKind.i64, TypeDesc.int IntKind.u8, TypeDesc.string] := by kernel_rfl
theorem tb_fieldK_215_0 : fieldK Tryz.prog 215 0 = some (0, true, 3) := by kernel_rfl
theorem tb_fieldK_215_1 : fieldK Tryz.prog 215 1 = some (3, false, 1) := by kernel_rfl
theorem tb_fieldK_215_2 : fieldK Tryz.prog 215 2 = some (4, false, 1) := by kernel_rfl
theorem mixed : Tryz.prog.follows .mixedOrders = true := by kernel_rfl
attribute [go_sem] tb_tk_0 tb_loadK_0 tb_zeroK_0 tb_bytesK_0 tb_sliceElem_0 tb_arrElem_0 tb_byteEl_0 tb_tk_1 tb_loadK_1 tb_zeroK_1 tb_bytesK_1 tb_sliceElem_1
attribute [go_sem] tb_arrElem_1 tb_byteEl_1 tb_tk_2 tb_loadK_2 tb_zeroK_2 tb_bytesK_2 tb_byteEl_2 tb_tk_3 tb_loadK_3 tb_zeroK_3 tb_bytesK_3 tb_byteEl_3
attribute [go_sem] tb_tk_4 tb_loadK_4 tb_zeroK_4 tb_bytesK_4 tb_byteEl_4 tb_tk_5 tb_loadK_5 tb_zeroK_5 tb_bytesK_5 tb_byteEl_5 tb_tk_6 tb_loadK_6
attribute [go_sem] tb_zeroK_6 tb_bytesK_6 tb_byteEl_6 tb_tk_7 tb_loadK_7 tb_zeroK_7 tb_bytesK_7 tb_sliceElem_7 tb_arrElem_7 tb_placesK_7 tb_byteEl_7 tb_flatK_7
attribute [go_sem] tb_fieldK_7_0 tb_fieldK_7_1 tb_fieldK_7_2 tb_fieldK_7_3 tb_tk_8 tb_loadK_8 tb_zeroK_8 tb_bytesK_8 tb_sliceElem_8 tb_arrElem_8 tb_placesK_8 tb_byteEl_8
attribute [go_sem] tb_flatK_8 tb_fieldK_8_0 tb_fieldK_8_1 tb_fieldK_8_2 tb_fieldK_8_3 tb_tk_9 tb_loadK_9 tb_zeroK_9 tb_bytesK_9 tb_byteEl_9 tb_arrLoad_9 tb_tk_10
attribute [go_sem] tb_loadK_10 tb_zeroK_10 tb_bytesK_10 tb_byteEl_10 tb_arrLoad_10 tb_tk_11 tb_loadK_11 tb_zeroK_11 tb_bytesK_11 tb_byteEl_11 tb_arrLoad_11 tb_tk_12
attribute [go_sem] tb_loadK_12 tb_zeroK_12 tb_bytesK_12 tb_byteEl_12 tb_tk_13 tb_loadK_13 tb_zeroK_13 tb_bytesK_13 tb_sliceElem_13 tb_arrElem_13 tb_placesK_13 tb_byteEl_13
attribute [go_sem] tb_fieldK_13_0 tb_fieldK_13_1 tb_tk_14 tb_loadK_14 tb_zeroK_14 tb_bytesK_14 tb_sliceElem_14 tb_arrElem_14 tb_placesK_14 tb_byteEl_14 tb_fieldK_14_0 tb_fieldK_14_1
attribute [go_sem] tb_tk_15 tb_loadK_15 tb_zeroK_15 tb_bytesK_15 tb_sliceElem_15 tb_arrElem_15 tb_byteEl_15 tb_tk_16 tb_loadK_16 tb_zeroK_16 tb_bytesK_16 tb_sliceElem_16
attribute [go_sem] tb_arrElem_16 tb_byteEl_16 tb_tk_17 tb_loadK_17 tb_zeroK_17 tb_bytesK_17 tb_sliceElem_17 tb_arrElem_17 tb_byteEl_17 tb_tk_18 tb_loadK_18 tb_zeroK_18
attribute [go_sem] tb_bytesK_18 tb_sliceElem_18 tb_arrElem_18 tb_placesK_18 tb_byteEl_18 tb_fieldK_18_0 tb_tk_19 tb_loadK_19 tb_zeroK_19 tb_bytesK_19 tb_sliceElem_19 tb_arrElem_19
attribute [go_sem] tb_placesK_19 tb_byteEl_19 tb_fieldK_19_0 tb_tk_20 tb_loadK_20 tb_zeroK_20 tb_bytesK_20 tb_sliceElem_20 tb_arrElem_20 tb_byteEl_20 tb_tk_21 tb_loadK_21
attribute [go_sem] tb_zeroK_21 tb_bytesK_21 tb_byteEl_21 tb_tk_22 tb_loadK_22 tb_zeroK_22 tb_bytesK_22 tb_sliceElem_22 tb_arrElem_22 tb_byteEl_22 tb_tk_23 tb_loadK_23
attribute [go_sem] tb_zeroK_23 tb_bytesK_23 tb_sliceElem_23 tb_arrElem_23 tb_placesK_23 tb_byteEl_23 tb_fieldK_23_0 tb_tk_24 tb_loadK_24 tb_zeroK_24 tb_bytesK_24 tb_sliceElem_24
attribute [go_sem] tb_arrElem_24 tb_placesK_24 tb_byteEl_24 tb_fieldK_24_0 tb_tk_25 tb_loadK_25 tb_zeroK_25 tb_bytesK_25 tb_sliceElem_25 tb_arrElem_25 tb_byteEl_25 tb_tk_26
attribute [go_sem] tb_loadK_26 tb_zeroK_26 tb_bytesK_26 tb_sliceElem_26 tb_arrElem_26 tb_byteEl_26 tb_tk_27 tb_loadK_27 tb_zeroK_27 tb_bytesK_27 tb_sliceElem_27 tb_arrElem_27
attribute [go_sem] tb_byteEl_27 tb_tk_28 tb_loadK_28 tb_zeroK_28 tb_bytesK_28 tb_sliceElem_28 tb_arrElem_28 tb_placesK_28 tb_byteEl_28 tb_fieldK_28_0 tb_fieldK_28_1 tb_fieldK_28_2
attribute [go_sem] tb_fieldK_28_3 tb_tk_29 tb_loadK_29 tb_zeroK_29 tb_bytesK_29 tb_sliceElem_29 tb_arrElem_29 tb_placesK_29 tb_byteEl_29 tb_fieldK_29_0 tb_fieldK_29_1 tb_fieldK_29_2
attribute [go_sem] tb_fieldK_29_3 tb_tk_30 tb_loadK_30 tb_zeroK_30 tb_bytesK_30 tb_sliceElem_30 tb_arrElem_30 tb_byteEl_30 tb_tk_31 tb_loadK_31 tb_zeroK_31 tb_bytesK_31
attribute [go_sem] tb_sliceElem_31 tb_arrElem_31 tb_byteEl_31 tb_tk_32 tb_loadK_32 tb_zeroK_32 tb_bytesK_32 tb_sliceElem_32 tb_arrElem_32 tb_byteEl_32 tb_tk_33 tb_loadK_33
attribute [go_sem] tb_zeroK_33 tb_bytesK_33 tb_byteEl_33 tb_tk_34 tb_loadK_34 tb_zeroK_34 tb_bytesK_34 tb_sliceElem_34 tb_arrElem_34 tb_byteEl_34 tb_tk_35 tb_loadK_35
attribute [go_sem] tb_zeroK_35 tb_bytesK_35 tb_sliceElem_35 tb_arrElem_35 tb_byteEl_35 tb_tk_36 tb_loadK_36 tb_zeroK_36 tb_bytesK_36 tb_sliceElem_36 tb_arrElem_36 tb_byteEl_36
attribute [go_sem] tb_tk_37 tb_loadK_37 tb_zeroK_37 tb_bytesK_37 tb_sliceElem_37 tb_arrElem_37 tb_byteEl_37 tb_tk_38 tb_loadK_38 tb_zeroK_38 tb_bytesK_38 tb_sliceElem_38
attribute [go_sem] tb_arrElem_38 tb_byteEl_38 tb_tk_39 tb_loadK_39 tb_zeroK_39 tb_bytesK_39 tb_sliceElem_39 tb_arrElem_39 tb_placesK_39 tb_byteEl_39 tb_fieldK_39_0 tb_fieldK_39_1
attribute [go_sem] tb_tk_40 tb_loadK_40 tb_zeroK_40 tb_bytesK_40 tb_sliceElem_40 tb_arrElem_40 tb_placesK_40 tb_byteEl_40 tb_fieldK_40_0 tb_fieldK_40_1
attribute [go_sem] tb_tk_42 tb_loadK_42 tb_zeroK_42 tb_bytesK_42 tb_sliceElem_42 tb_arrElem_42 tb_placesK_42
attribute [go_sem] tb_byteEl_42 tb_flatK_42 tb_fieldK_42_0 tb_fieldK_42_1 tb_fieldK_42_2 tb_fieldK_42_3 tb_tk_43 tb_loadK_43 tb_zeroK_43 tb_bytesK_43 tb_sliceElem_43 tb_arrElem_43
attribute [go_sem] tb_placesK_43 tb_byteEl_43 tb_flatK_43 tb_fieldK_43_0 tb_fieldK_43_1 tb_fieldK_43_2 tb_fieldK_43_3 tb_tk_44 tb_loadK_44 tb_zeroK_44 tb_bytesK_44 tb_sliceElem_44
attribute [go_sem] tb_arrElem_44 tb_byteEl_44
attribute [go_sem] tb_tk_46 tb_loadK_46 tb_zeroK_46 tb_bytesK_46 tb_sliceElem_46 tb_arrElem_46 tb_placesK_46 tb_byteEl_46 tb_fieldK_46_0 tb_fieldK_46_1
attribute [go_sem] tb_tk_48 tb_loadK_48 tb_zeroK_48 tb_bytesK_48 tb_sliceElem_48 tb_arrElem_48 tb_byteEl_48
attribute [go_sem] tb_tk_49 tb_loadK_49 tb_zeroK_49 tb_bytesK_49 tb_sliceElem_49 tb_arrElem_49 tb_byteEl_49 tb_tk_50 tb_loadK_50 tb_zeroK_50 tb_bytesK_50 tb_sliceElem_50
attribute [go_sem] tb_arrElem_50 tb_byteEl_50 tb_tk_51 tb_loadK_51 tb_zeroK_51 tb_bytesK_51 tb_sliceElem_51 tb_arrElem_51 tb_byteEl_51 tb_tk_52 tb_loadK_52 tb_zeroK_52
attribute [go_sem] tb_bytesK_52 tb_sliceElem_52 tb_arrElem_52 tb_byteEl_52 tb_tk_53 tb_loadK_53 tb_zeroK_53 tb_bytesK_53 tb_sliceElem_53 tb_arrElem_53 tb_byteEl_53 tb_tk_54
attribute [go_sem] tb_loadK_54 tb_zeroK_54 tb_bytesK_54 tb_sliceElem_54 tb_arrElem_54 tb_byteEl_54
attribute [go_sem] tb_tk_57 tb_loadK_57 tb_zeroK_57 tb_bytesK_57
attribute [go_sem] tb_sliceElem_57 tb_arrElem_57 tb_byteEl_57 tb_tk_59 tb_loadK_59
attribute [go_sem] tb_zeroK_59 tb_bytesK_59 tb_sliceElem_59 tb_arrElem_59 tb_byteEl_59 tb_tk_60 tb_loadK_60 tb_zeroK_60 tb_bytesK_60 tb_sliceElem_60 tb_arrElem_60 tb_byteEl_60
attribute [go_sem] tb_tk_61 tb_loadK_61 tb_zeroK_61 tb_bytesK_61 tb_sliceElem_61 tb_arrElem_61 tb_byteEl_61 tb_tk_62 tb_loadK_62 tb_zeroK_62 tb_bytesK_62 tb_sliceElem_62
attribute [go_sem] tb_arrElem_62 tb_byteEl_62 tb_tk_63 tb_loadK_63 tb_zeroK_63 tb_bytesK_63 tb_sliceElem_63 tb_arrElem_63 tb_byteEl_63 tb_tk_64 tb_loadK_64 tb_zeroK_64
attribute [go_sem] tb_bytesK_64 tb_sliceElem_64 tb_arrElem_64 tb_byteEl_64 tb_tk_65 tb_loadK_65 tb_zeroK_65 tb_bytesK_65 tb_sliceElem_65 tb_arrElem_65 tb_byteEl_65 tb_tk_66
attribute [go_sem] tb_loadK_66 tb_zeroK_66 tb_bytesK_66 tb_sliceElem_66 tb_arrElem_66 tb_byteEl_66 tb_tk_67 tb_loadK_67 tb_zeroK_67 tb_bytesK_67 tb_sliceElem_67 tb_arrElem_67
attribute [go_sem] tb_placesK_67 tb_byteEl_67 tb_flatK_67 tb_fieldK_67_0 tb_fieldK_67_1 tb_tk_68 tb_loadK_68 tb_zeroK_68 tb_bytesK_68 tb_sliceElem_68 tb_arrElem_68 tb_placesK_68
attribute [go_sem] tb_byteEl_68 tb_flatK_68 tb_fieldK_68_0 tb_fieldK_68_1 tb_tk_69 tb_loadK_69 tb_zeroK_69 tb_bytesK_69 tb_sliceElem_69 tb_arrElem_69 tb_byteEl_69
attribute [go_sem] tb_tk_71 tb_loadK_71 tb_zeroK_71 tb_bytesK_71 tb_sliceElem_71 tb_arrElem_71
attribute [go_sem] tb_byteEl_71 tb_tk_73 tb_loadK_73 tb_zeroK_73 tb_bytesK_73
attribute [go_sem] tb_sliceElem_73 tb_arrElem_73 tb_byteEl_73 tb_tk_75 tb_loadK_75
attribute [go_sem] tb_zeroK_75 tb_bytesK_75 tb_sliceElem_75 tb_arrElem_75 tb_placesK_75 tb_byteEl_75 tb_flatK_75 tb_arrLoad_75 tb_tk_76 tb_loadK_76 tb_zeroK_76 tb_bytesK_76
attribute [go_sem] tb_sliceElem_76 tb_arrElem_76 tb_byteEl_76 tb_tk_77 tb_loadK_77 tb_zeroK_77 tb_bytesK_77 tb_sliceElem_77 tb_arrElem_77 tb_placesK_77 tb_byteEl_77 tb_flatK_77
attribute [go_sem] tb_fieldK_77_0 tb_fieldK_77_1 tb_fieldK_77_2 tb_tk_78 tb_loadK_78 tb_zeroK_78 tb_bytesK_78 tb_sliceElem_78 tb_arrElem_78 tb_placesK_78 tb_byteEl_78 tb_flatK_78
attribute [go_sem] tb_fieldK_78_0 tb_fieldK_78_1 tb_fieldK_78_2 tb_tk_79 tb_loadK_79 tb_zeroK_79 tb_bytesK_79 tb_sliceElem_79 tb_arrElem_79 tb_byteEl_79 tb_tk_80 tb_loadK_80
attribute [go_sem] tb_zeroK_80 tb_bytesK_80 tb_sliceElem_80 tb_arrElem_80 tb_byteEl_80 tb_tk_81 tb_loadK_81 tb_zeroK_81 tb_bytesK_81 tb_sliceElem_81 tb_arrElem_81 tb_byteEl_81
attribute [go_sem] tb_tk_83 tb_loadK_83 tb_zeroK_83 tb_bytesK_83 tb_sliceElem_83
attribute [go_sem] tb_arrElem_83 tb_byteEl_83
attribute [go_sem] tb_tk_86 tb_loadK_86 tb_zeroK_86 tb_bytesK_86 tb_sliceElem_86 tb_arrElem_86 tb_byteEl_86 tb_tk_87
attribute [go_sem] tb_loadK_87 tb_zeroK_87 tb_bytesK_87 tb_byteEl_87 tb_mapK_87 tb_tk_88 tb_loadK_88 tb_zeroK_88 tb_bytesK_88 tb_sliceElem_88 tb_arrElem_88 tb_byteEl_88
attribute [go_sem] tb_tk_89 tb_loadK_89 tb_zeroK_89 tb_bytesK_89 tb_sliceElem_89 tb_arrElem_89 tb_byteEl_89 tb_tk_90 tb_loadK_90 tb_zeroK_90 tb_bytesK_90 tb_sliceElem_90
attribute [go_sem] tb_arrElem_90 tb_byteEl_90 tb_tk_91 tb_loadK_91 tb_zeroK_91 tb_bytesK_91 tb_sliceElem_91 tb_arrElem_91 tb_byteEl_91 tb_tk_92 tb_loadK_92 tb_zeroK_92
attribute [go_sem] tb_bytesK_92 tb_sliceElem_92 tb_arrElem_92 tb_placesK_92 tb_byteEl_92 tb_fieldK_92_0 tb_fieldK_92_1 tb_fieldK_92_2 tb_tk_93 tb_loadK_93 tb_zeroK_93 tb_bytesK_93
attribute [go_sem] tb_sliceElem_93 tb_arrElem_93 tb_placesK_93 tb_byteEl_93 tb_fieldK_93_0 tb_fieldK_93_1 tb_fieldK_93_2 tb_tk_94 tb_loadK_94 tb_zeroK_94 tb_bytesK_94 tb_sliceElem_94
attribute [go_sem] tb_arrElem_94 tb_byteEl_94 tb_tk_95 tb_loadK_95 tb_zeroK_95 tb_bytesK_95 tb_sliceElem_95 tb_arrElem_95 tb_byteEl_95
attribute [go_sem] tb_tk_97 tb_loadK_97 tb_zeroK_97 tb_bytesK_97 tb_sliceElem_97 tb_arrElem_97 tb_byteEl_97
attribute [go_sem] tb_tk_99 tb_loadK_99 tb_zeroK_99 tb_bytesK_99 tb_sliceElem_99 tb_arrElem_99
attribute [go_sem] tb_byteEl_99
attribute [go_sem] tb_tk_101 tb_loadK_101 tb_zeroK_101 tb_bytesK_101 tb_sliceElem_101 tb_arrElem_101 tb_placesK_101 tb_byteEl_101 tb_flatK_101 tb_fieldK_101_0 tb_fieldK_101_1
attribute [go_sem] tb_fieldK_101_2 tb_tk_102 tb_loadK_102 tb_zeroK_102 tb_bytesK_102 tb_sliceElem_102 tb_arrElem_102 tb_byteEl_102 tb_tk_103 tb_loadK_103 tb_zeroK_103 tb_bytesK_103
attribute [go_sem] tb_sliceElem_103 tb_arrElem_103 tb_byteEl_103 tb_tk_105 tb_loadK_105
attribute [go_sem] tb_zeroK_105 tb_bytesK_105 tb_sliceElem_105 tb_arrElem_105 tb_byteEl_105 tb_tk_106 tb_loadK_106 tb_zeroK_106 tb_bytesK_106 tb_sliceElem_106 tb_arrElem_106 tb_byteEl_106
attribute [go_sem] tb_tk_108 tb_loadK_108 tb_zeroK_108 tb_bytesK_108 tb_sliceElem_108 tb_arrElem_108 tb_placesK_108 tb_byteEl_108 tb_flatK_108 tb_fieldK_108_0 tb_fieldK_108_1 tb_fieldK_108_2
attribute [go_sem] tb_tk_110 tb_loadK_110 tb_zeroK_110 tb_bytesK_110 tb_sliceElem_110 tb_arrElem_110 tb_placesK_110 tb_byteEl_110 tb_flatK_110 tb_fieldK_110_0 tb_fieldK_110_1
attribute [go_sem] tb_fieldK_110_2 tb_fieldK_110_3 tb_tk_111 tb_loadK_111 tb_zeroK_111 tb_bytesK_111 tb_sliceElem_111 tb_arrElem_111 tb_byteEl_111
attribute [go_sem] tb_tk_113 tb_loadK_113 tb_zeroK_113 tb_bytesK_113 tb_sliceElem_113 tb_arrElem_113 tb_byteEl_113
attribute [go_sem] tb_tk_115 tb_loadK_115 tb_zeroK_115 tb_bytesK_115 tb_sliceElem_115 tb_arrElem_115
attribute [go_sem] tb_byteEl_115 tb_tk_116 tb_loadK_116 tb_zeroK_116 tb_bytesK_116 tb_sliceElem_116 tb_arrElem_116 tb_byteEl_116
attribute [go_sem] tb_tk_118 tb_loadK_118 tb_zeroK_118 tb_bytesK_118 tb_sliceElem_118 tb_arrElem_118 tb_byteEl_118
attribute [go_sem] tb_tk_127 tb_loadK_127 tb_zeroK_127 tb_bytesK_127 tb_sliceElem_127 tb_arrElem_127
attribute [go_sem] tb_byteEl_127 tb_tk_128 tb_loadK_128 tb_zeroK_128 tb_bytesK_128 tb_sliceElem_128 tb_arrElem_128 tb_byteEl_128 tb_tk_129 tb_loadK_129 tb_zeroK_129 tb_bytesK_129
attribute [go_sem] tb_sliceElem_129 tb_arrElem_129 tb_byteEl_129 tb_tk_130 tb_loadK_130 tb_zeroK_130 tb_bytesK_130 tb_byteEl_130 tb_mapK_130 tb_tk_131 tb_loadK_131 tb_zeroK_131
attribute [go_sem] tb_bytesK_131 tb_sliceElem_131 tb_arrElem_131 tb_byteEl_131
attribute [go_sem] tb_tk_133 tb_loadK_133 tb_zeroK_133 tb_bytesK_133 tb_sliceElem_133 tb_arrElem_133 tb_placesK_133 tb_byteEl_133
attribute [go_sem] tb_flatK_133 tb_fieldK_133_0 tb_fieldK_133_1 tb_fieldK_133_2 tb_tk_134 tb_loadK_134 tb_zeroK_134 tb_bytesK_134 tb_sliceElem_134 tb_arrElem_134 tb_byteEl_134 tb_tk_135
attribute [go_sem] tb_loadK_135 tb_zeroK_135 tb_bytesK_135 tb_sliceElem_135 tb_arrElem_135 tb_byteEl_135
attribute [go_sem] tb_tk_137 tb_loadK_137 tb_zeroK_137 tb_bytesK_137 tb_sliceElem_137 tb_arrElem_137 tb_placesK_137 tb_byteEl_137
attribute [go_sem] tb_fieldK_137_0 tb_fieldK_137_1 tb_tk_138 tb_loadK_138 tb_zeroK_138 tb_bytesK_138 tb_sliceElem_138 tb_arrElem_138 tb_placesK_138 tb_byteEl_138 tb_arrLoad_138 tb_tk_139
attribute [go_sem] tb_loadK_139 tb_zeroK_139 tb_bytesK_139 tb_sliceElem_139 tb_arrElem_139 tb_byteEl_139
attribute [go_sem] tb_tk_144 tb_loadK_144
attribute [go_sem] tb_zeroK_144 tb_bytesK_144 tb_sliceElem_144 tb_arrElem_144 tb_byteEl_144
attribute [go_sem] tb_tk_146 tb_loadK_146 tb_zeroK_146 tb_bytesK_146 tb_sliceElem_146 tb_arrElem_146 tb_byteEl_146
attribute [go_sem] tb_tk_149 tb_loadK_149 tb_zeroK_149
attribute [go_sem] tb_bytesK_149 tb_sliceElem_149 tb_arrElem_149 tb_placesK_149 tb_byteEl_149 tb_flatK_149 tb_arrLoad_149
attribute [go_sem] tb_tk_152 tb_loadK_152 tb_zeroK_152
attribute [go_sem] tb_bytesK_152 tb_sliceElem_152 tb_arrElem_152 tb_byteEl_152
attribute [go_sem] tb_tk_157 tb_loadK_157 tb_zeroK_157 tb_bytesK_157 tb_sliceElem_157 tb_arrElem_157 tb_placesK_157 tb_byteEl_157 tb_fieldK_157_0 tb_fieldK_157_1 tb_fieldK_157_2
attribute [go_sem] tb_tk_163 tb_loadK_163 tb_zeroK_163 tb_bytesK_163 tb_sliceElem_163 tb_arrElem_163 tb_placesK_163 tb_byteEl_163
attribute [go_sem] tb_flatK_163 tb_fieldK_163_0 tb_fieldK_163_1 tb_fieldK_163_2 tb_fieldK_163_3
attribute [go_sem] tb_tk_165 tb_loadK_165 tb_zeroK_165 tb_bytesK_165 tb_sliceElem_165 tb_arrElem_165 tb_byteEl_165 tb_tk_166 tb_loadK_166 tb_zeroK_166 tb_bytesK_166 tb_sliceElem_166
attribute [go_sem] tb_arrElem_166 tb_byteEl_166
attribute [go_sem] tb_tk_169 tb_loadK_169 tb_zeroK_169 tb_bytesK_169 tb_sliceElem_169 tb_arrElem_169 tb_byteEl_169 tb_tk_170
attribute [go_sem] tb_loadK_170 tb_zeroK_170 tb_bytesK_170 tb_sliceElem_170 tb_arrElem_170 tb_placesK_170 tb_byteEl_170 tb_fieldK_170_0 tb_tk_171 tb_loadK_171 tb_zeroK_171 tb_bytesK_171
attribute [go_sem] tb_sliceElem_171 tb_arrElem_171 tb_placesK_171 tb_byteEl_171 tb_arrLoad_171
attribute [go_sem] tb_tk_173 tb_loadK_173 tb_zeroK_173 tb_bytesK_173 tb_sliceElem_173 tb_arrElem_173 tb_byteEl_173 tb_tk_174 tb_loadK_174 tb_zeroK_174 tb_bytesK_174 tb_sliceElem_174
attribute [go_sem] tb_arrElem_174 tb_byteEl_174
attribute [go_sem] tb_tk_176 tb_loadK_176 tb_zeroK_176 tb_bytesK_176 tb_sliceElem_176 tb_arrElem_176 tb_placesK_176 tb_byteEl_176 tb_fieldK_176_0 tb_fieldK_176_1
attribute [go_sem] tb_tk_179 tb_loadK_179 tb_zeroK_179 tb_bytesK_179 tb_sliceElem_179 tb_arrElem_179 tb_byteEl_179 tb_tk_180 tb_loadK_180 tb_zeroK_180 tb_bytesK_180 tb_sliceElem_180
attribute [go_sem] tb_arrElem_180 tb_byteEl_180
attribute [go_sem] tb_tk_183 tb_loadK_183 tb_zeroK_183 tb_bytesK_183 tb_sliceElem_183 tb_arrElem_183 tb_byteEl_183 tb_tk_184
attribute [go_sem] tb_loadK_184 tb_zeroK_184 tb_bytesK_184 tb_sliceElem_184 tb_arrElem_184 tb_byteEl_184
attribute [go_sem] tb_tk_203 tb_loadK_203 tb_zeroK_203 tb_bytesK_203 tb_sliceElem_203 tb_arrElem_203 tb_byteEl_203
attribute [go_sem] tb_tk_206 tb_loadK_206 tb_zeroK_206 tb_bytesK_206 tb_sliceElem_206 tb_arrElem_206 tb_byteEl_206
attribute [go_sem] tb_tk_209 tb_loadK_209 tb_zeroK_209 tb_bytesK_209 tb_sliceElem_209 tb_arrElem_209 tb_placesK_209 tb_byteEl_209 tb_flatK_209
attribute [go_sem] tb_fieldK_209_0 tb_fieldK_209_1 tb_fieldK_209_2 tb_tk_210 tb_loadK_210 tb_zeroK_210 tb_bytesK_210 tb_sliceElem_210 tb_arrElem_210 tb_placesK_210 tb_byteEl_210 tb_flatK_210
attribute [go_sem] tb_arrLoad_210 tb_tk_211 tb_loadK_211 tb_zeroK_211 tb_bytesK_211 tb_byteEl_211 tb_mapK_211 tb_tk_212 tb_loadK_212 tb_zeroK_212 tb_bytesK_212 tb_sliceElem_212
attribute [go_sem] tb_arrElem_212 tb_byteEl_212 tb_tk_213 tb_loadK_213 tb_zeroK_213 tb_bytesK_213 tb_sliceElem_213 tb_arrElem_213 tb_byteEl_213
attribute [go_sem] tb_tk_215 tb_loadK_215 tb_zeroK_215
attribute [go_sem] tb_bytesK_215 tb_sliceElem_215 tb_arrElem_215 tb_placesK_215 tb_byteEl_215 tb_flatK_215 tb_fieldK_215_0 tb_fieldK_215_1 tb_fieldK_215_2
end Go.Proofs.YtagfopbijboajaaGreatDoor
