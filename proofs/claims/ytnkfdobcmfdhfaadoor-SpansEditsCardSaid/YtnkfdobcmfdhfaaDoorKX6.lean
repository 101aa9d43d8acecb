import Derived.Test.YtnkfdobcmfdhfaaDoorKX2

